/- Walks. -/
import Derived.Test.YtfiibpgoplcgkaaGreatDoorG4SA
import Derived.Test.YtfiibpgoplcgkaaGreatDoorG7SA
import Derived.Laws.ResultCell
import Derived.WalkSpells
set_option linter.unusedVariables false
set_option linter.unusedSimpArgs false
set_option maxRecDepth 100000
set_option maxHeartbeats 1600000
namespace Go.Proofs.YtfiibpgoplcgkaaGreatDoor
section
open Go.RowKit
def q8U(s:List UInt8):Bool:=decide (2<=s.length)&&decide (q1O (s.take 2)+2<=s.length)
def rdT(s:List UInt8):List UInt8:=if q8U s then(s.take (2+q1O (s.take 2))).drop 2 else []
def rdR(s:List UInt8):List UInt8:=if q8U s then s.drop (2+q1O (s.take 2)) else []
theorem z2a(s:List UInt8)(w:World)(Z:s.length<=4611686018427387903):
  Calls Tryz.prog 132 #[.string ⟨s.toArray⟩] w fun e w'=>e= .returned (.tuple #[.string ⟨(rdT s).toArray⟩,.string ⟨(rdR s).toArray⟩,.bool (q8U s)])/\Ext w w':=by
 by_cases R:(s.length:Int)<2
 ·have x:q8U s=false:=by unfold q8U;rw[ε (by omega)];rfl
  have N:Hd (rdT s=[]):=η (by unfold rdT;rw[x];rfl);have M:Hd (rdR s=[]):=η (by unfold rdR;rw[x];rfl);have l:=η x;clear x;go_enter Tryz.func132,Tryz.ntmps132;go_wp2_with fail;go_ret3;exact⟨by rw[N.o,M.o,l.o];rfl,Ext.refl _⟩
 have q:2<=s.length:=by omega
 have E:=q2O (s.take 2);rw[Θ,Nat.min_eq_left q] at E;have r:(s.take 2).take 8=s.take 2:=Δ (by simp;omega);have B:=η r;have l:Hd (q8U s=decide (q1O (s.take 2)+2<=s.length)):=η (by unfold q8U;rw[ζ q,Bool.true_and]);have C:Hd ((s.take 2).length<=9223372036854775807):=η (by simp;omega);have m:Hd (q8U s=true->rdT s=(s.take (2+q1O (s.take 2))).drop 2/\rdR s=s.drop (2+q1O (s.take 2))):=η (fun h=>by unfold rdT rdR;rw[h];exact⟨rfl,rfl⟩);have y:Hd (q8U s=false->rdT s=[]/\rdR s=[]):=η (fun h=>by unfold rdT rdR;rw[h];exact⟨rfl,rfl⟩);obtain⟨u,i⟩: ∃u,q1O (s.take 2)=u:=⟨_,rfl⟩
 rw[i] at E l m;have O:=η i;have Y:(u:Int)<=65535:=by omega
 clear r i E R;go_enter Tryz.func132,Tryz.ntmps132;go_wp2_with fail;refine(q9l (s.take 2) _ C.o).mono ?_;rw[B.o,O.o];rintro e w1 ⟨rfl,G⟩;have F:=η G;clear G;by_cases D:(s.length:Int)-2<(u:Int)
 ·have b:q8U s=false:=by rw[l.o];exact ε (by omega)
  have j:=η (y.o b);have d:=η b;clear b;go_wp2_with fail;go_ret3;exact⟨by rw[j.o.1,j.o.2,d.o];rfl,F.o⟩
 ·have b:q8U s=true:=by rw[l.o];exact ζ (by omega)
  have j:=η (m.o b);have d:=η b;clear b;have I:(u:Int)<=(s.length:Int)-2:=by omega
  have J:2+u<=s.length:=by omega
  clear D;have S:IntKind.i64.wrap (2+(u:Int))=2+(u:Int):=IntWalk.i64_in _ (by omega);have U:(2+(u:Int)).toNat=2+u:=by omega
  have V:0<=2+(u:Int):=by omega
  have W:2<=2+(u:Int):=by omega
  have X:2+(u:Int)<=(s.length:Int):=by omega
  go_wp2_with fail;refine q0E (by kernel_rfl) (by kernel_rfl) ?_
  repeat (go_big_quiet_step (fail))
  refine wpQuiet_nil ?_;intro w4 v;have Q:=η (F.o.trans v);clear v;go_wp2_with fail;go_ret3;exact⟨by rw[j.o.1,j.o.2,d.o];rfl,Q.o⟩
theorem q8B(s:List UInt8):(rdR s).length<=s.length:=by unfold rdR;split<;>simp
theorem z3w(s:List UInt8):(rdT s).length<=s.length:=by unfold rdT;split<;>simp;omega
def q0q(t d:List UInt8):Int:=if t=[] then 2 else if 16<t.length then 3 else if 200<d.length then 3 else 0
theorem q9c(t d:List UInt8)(k:FloatKind)(b:Nat)(w:World)(q:t.length<=4611686018427387903)(m:d.length<=4611686018427387903):
  Calls Tryz.prog 124 #[.agg #[.string ⟨t.toArray⟩,.string ⟨d.toArray⟩,.float k b]] w fun e w'=>e= .returned (.int .i64 (q0q t d))/\Ext w w':=by
 have l:=η (q0B w (.cells #[.string ⟨t.toArray⟩,.string ⟨d.toArray⟩,.float k b] 67));by_cases i:t=[]
 ·subst i
  have j:Hd (q0q [] d=2):=η (by unfold q0q;rw[ξ rfl]);go_enter Tryz.func124,Tryz.ntmps124;go_wp2_with fail;go_ret;exact⟨rn j.o,l.o⟩
 have r:(t==[])=false:=beq_eq_false_iff_ne.2 i;by_cases s:16<(t.length:Int)
 ·have j:Hd (q0q t d=3):=η (by unfold q0q;rw[κ i,ξ (by omega)])
  clear i;go_enter Tryz.func124,Tryz.ntmps124;go_wp2_with fail;go_ret;exact⟨rn j.o,l.o⟩
 by_cases u:200<(d.length:Int)
 ·have j:Hd (q0q t d=3):=η (by unfold q0q;rw[κ i,κ (by omega),ξ (by omega)])
  clear i;go_enter Tryz.func124,Tryz.ntmps124;go_wp2_with fail;go_ret;exact⟨rn j.o,l.o⟩
 ·have j:Hd (q0q t d=0):=η (by unfold q0q;rw[κ i,κ (by omega),κ (by omega)])
  clear i;go_enter Tryz.func124,Tryz.ntmps124;go_wp2_with fail;go_ret;exact⟨rn j.o,l.o⟩
structure Ev where
 ty:List UInt8
 da:List UInt8
 we:Nat
def ev0 :Ev:=⟨[],[],0⟩
def evc(e:Ev):List Value:=[.string ⟨e.ty.toArray⟩,.string ⟨e.da.toArray⟩,.float .f64 e.we]
def evV(e:Ev):Value:= .agg #[.string ⟨e.ty.toArray⟩,.string ⟨e.da.toArray⟩,.float .f64 e.we]
def q5N(l:List Ev):List Value:=(l.map evc).flatten
theorem z4t(e:Ev):(evc e).length=3:=rfl
theorem z2J(l:List Ev):(q5N l).length=l.length*3:=by
 induction l with
 |nil=>rfl
 |cons a r ih=>rw[show q5N (a::r)=evc a++q5N r from rfl,θ,ih,z4t,χ];omega
theorem q7e(a b:List Ev):q5N (a++b)=q5N a++q5N b:=by simp[q5N]
theorem z8p(l:List Ev): ∀u∈q5N l,u.oneCell'=true:=by
 intro u b;obtain⟨c,hc,b⟩:=List.mem_flatten.1 b;obtain⟨a,_,rfl⟩:=List.mem_map.1 hc;simp[evc] at b;rcases b with rfl|rfl|rfl<;>rfl
def y0F(e:Ev):Prop:=q0q e.ty e.da=0/\e.we<18446744073709551616
def evB(e:Ev):List UInt8:=q2y e.ty++(q2y e.da++be 8 e.we)
def rdE(s:List UInt8):Option (Ev×List UInt8):=
 if q8U s=true/\q8U (rdR s)=true/\8<=(rdR (rdR s)).length/\q0q (rdT s) (rdT (rdR s))=0 then some (⟨rdT s,rdT (rdR s),q1O ((rdR (rdR s)).take 8)⟩,(rdR (rdR s)).drop 8) else none
def z2j :Nat->List UInt8->Option (List Ev×List UInt8)
 |0,s=>some ([],s)
 |n+1,s=>(z2j n s).bind fun r=>(rdE r.2).map fun x=>(r.1++[x.1],x.2)
structure Bt where
 st:List UInt8
 fi:Nat
 ev:List Ev
def q7f :List Ev->Int
 |[]=>0
 |e::r=>if q0q e.ty e.da=0 then q7f r else q0q e.ty e.da
def q0h(st:List UInt8)(fi:Int)(l:List Ev):Int:=
 if st=[]\/l=[] then 2 else if 32<st.length\/8<l.length then 3 else if fi<0\/1073741824-(l.length:Int)<fi then 2 else q7f l
def btB(b:Bt):List UInt8:=q2y b.st++(be 8 b.fi++(be 1 b.ev.length++(b.ev.map evB).flatten))
def q5Q(s:List UInt8):Bool:=q8U s&&decide (9<=(rdR s).length)&&decide (q1O ((rdR s).take 8)<=1073741824)
def q5G(s:List UInt8):Option Bt:=
 if q5Q s=true then match z2j ((rdR s).getD 8 0).toNat ((rdR s).drop 9) with
  |some (l,[])=>if q0h (rdT s) (q1O ((rdR s).take 8):Int) l=0 then some ⟨rdT s,q1O ((rdR s).take 8),l⟩ else none
  |_=>none
 else none
def z5g(b:Bt):Prop:=q0h b.st (b.fi:Int) b.ev=0/\ ∀e∈b.ev,e.we<18446744073709551616
theorem q2c{t d:List UInt8}(h:q0q t d=0):t≠[]/\t.length<=16/\d.length<=200:=by
 unfold q0q at h
 split at h
 ·cases h
 ·split at h
  ·cases h
  ·split at h
   ·cases h
   ·rename_i b i j
    exact⟨b,by omega,by omega⟩
theorem q5o : ∀{l:List Ev},q7f l=0-> ∀e∈l,q0q e.ty e.da=0
 |[],_,_,h=>by cases h
 | x ::r,h,e,he=>by
  unfold q7f at h
  split at h
  ·rename_i b
   rcases List.mem_cons.1 he with rfl|he
   ·exact b
   ·exact q5o h e he
  ·rename_i b;exact absurd h b
theorem q1B{st:List UInt8}{fi:Int}{l:List Ev}(h:q0h st fi l=0):st≠[]/\l≠[]/\st.length<=32/\l.length<=8/\0<=fi/\fi<=1073741824-(l.length:Int)/\q7f l=0:=by
 unfold q0h at h
 split at h
 ·cases h
 ·rename_i b
  split at h
  ·cases h
  ·rename_i d
   split at h
   ·cases h
   ·rename_i i
    exact⟨fun e=>b (.inl e),fun e=>b (.inr e),by omega,by omega,by omega,by omega,h⟩
theorem z2k(t r:List UInt8)(h:t.length<=65535):q8U (q2y t++r)=true/\rdT (q2y t++r)=t/\rdR (q2y t++r)=r:=by
 rw[q2r h];have b:(be 2 t.length).length=2:=q0H 2 _;have i:(be 2 t.length++t++r).take 2=be 2 t.length:=by rw[List.append_assoc,List.take_left' b]
 have j:q1O ((be 2 t.length++t++r).take 2)=t.length:=by rw[i,q4q,Nat.mod_eq_of_lt (by omega)]
 have l:(be 2 t.length++t++r).length=2+t.length+r.length:=by simp[b];omega
 have d:q8U (be 2 t.length++t++r)=true:=by unfold q8U;rw[j,l];simp;omega
 refine⟨d,?_,?_⟩
 ·unfold rdT
  rw[ξ d,j,List.take_left' (by simp[b]),List.drop_left' b]
 ·unfold rdR
  rw[ξ d,j,List.drop_left' (by simp[b])]
theorem y3V(e:Ev)(r:List UInt8)(h:y0F e):rdE (evB e++r)=some (e,r):=by
 obtain⟨d,o⟩:=h;obtain⟨_,q,s⟩:=q2c d;have b:(be 8 e.we).length=8:=q0H 8 _;have m:evB e++r=q2y e.ty++(q2y e.da++(be 8 e.we++r)):=by unfold evB;simp
 obtain⟨i,j,l⟩:=z2k e.ty (q2y e.da++(be 8 e.we++r)) (by omega);obtain⟨b1,b2,b3⟩:=z2k e.da (be 8 e.we++r) (by omega);unfold rdE;rw[m,j,l,b2,b3,ξ ⟨i,b1,by rw[θ,b];omega,d⟩,List.take_left' b,List.drop_left' b,q4q,Nat.mod_eq_of_lt o]
theorem y0G : ∀(l done:List Ev) (r:List UInt8),(∀e∈l,y0F e)-> ∀s,z2j done.length s=some (done,(l.map evB).flatten++r)->z2j (done.length+l.length) s=some (done++l,r)
 |[],done,r,_,s,h=>by simpa using h
 | e ::l,done,r,hl,s,h=>by
  have b:z2j (done.length+1) s=some (done++[e],(l.map evB).flatten++r):=by
   rw[z2j,h,Option.bind_some,List.map_cons,List.flatten_cons,List.append_assoc,y3V e _ (hl e (.head _))]
   rfl
  have:=y0G l (done++[e]) r (fun x d=>hl x (.tail _ d)) s (by rw[θ];exact b);rw[θ,List.length_singleton,List.append_assoc] at this;rw[χ,show done.length+(l.length+1)=done.length+1+l.length by omega];exact this
theorem z6k(b:Bt)(h:z5g b):q5G (btB b)=some b:=by
 obtain⟨r,y⟩:=h;obtain⟨F,G,I,J,M,N,E⟩:=q1B r;have m: ∀e∈b.ev,y0F e:=fun e he=>⟨q5o E e he,y e he⟩
 have d:(be 8 b.fi).length=8:=q0H 8 _;have i:(be 1 b.ev.length).length=1:=q0H 1 _;obtain⟨v,x,o⟩:=z2k b.st (be 8 b.fi++(be 1 b.ev.length++(b.ev.map evB).flatten)) (by omega);have q:(be 8 b.fi++(be 1 b.ev.length++(b.ev.map evB).flatten)).take 8=be 8 b.fi:=List.take_left' d;have u:q1O (be 8 b.fi)=b.fi:=by rw[q4q,Nat.mod_eq_of_lt (by omega)]
 have j:be 1 b.ev.length=[UInt8.ofNat b.ev.length]:=by simp[be]
 have C:(be 8 b.fi++(be 1 b.ev.length++(b.ev.map evB).flatten)).getD 8 0=UInt8.ofNat b.ev.length:=by
  rw[δ,List.getElem?_append_right (by omega),d,j];rfl
 have B:(be 8 b.fi++(be 1 b.ev.length++(b.ev.map evB).flatten)).drop 9=(b.ev.map evB).flatten:=by
  rw[<-List.append_assoc,List.drop_left' (by simp[d,i])]
 have D:(UInt8.ofNat b.ev.length).toNat=b.ev.length:=by rw[UInt8.toNat_ofNat'];omega
 have s:=y0G b.ev [] [] m (b.ev.map evB).flatten (by rw[List.append_nil];rfl);rw[List.nil_append,List.length_nil,Nat.zero_add] at s;have l:q5Q (btB b)=true:=by
  unfold q5Q btB;rw[v,o,q,u,θ,θ,d,i];simp;omega
 unfold q5G;rw[ξ l];unfold btB;rw[x,o,q,u,C,B,D,s];simp only;rw[ξ r]
def y2R(h:Int):Int:=
 let a:=bits .xor .u64 h (h/4294967296)
 let b:=IntKind.u64.wrap (a*11400714819323198485)
 bits .xor .u64 b (b/536870912)
def z2O(l:List UInt8)(h:Int):Int:=l.foldl (fun h b=>IntKind.u64.wrap (bits .xor .u64 h (b.toNat:Int)*1099511628211)) h
def q2g(seed:Int)(s:List UInt8):Int:=if seed=0 then 7 else y2R (z2O s (bits .xor .u64 14695981039346656037 seed))
end
end Go.Proofs.YtfiibpgoplcgkaaGreatDoor
