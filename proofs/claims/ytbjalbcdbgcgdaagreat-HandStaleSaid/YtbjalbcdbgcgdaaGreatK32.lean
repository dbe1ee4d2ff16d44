/- Law HandStale: its texts, packed. -/
import Derived.Test.YtbjalbcdbgcgdaaGreatK31
import Derived.Test.YtbjalbcdbgcgdaaGreatK07
import Derived.Lib.UnsafeStr
import Derived.Test.YtbjalbcdbgcgdaaGreatK28
import Derived.Test.YtbjalbcdbgcgdaaGreatK27
open List renaming getD_eq_getElem?_getD->iw,getElem?_eq_getElem->aj,getElem?_of_mem->je,map_cons->eh,map_nil->eo,map_toArray->dn,mem_cons->aw,mem_cons_self->bc,replicate->eb,take_length->jb
open Nat renaming lt_or_ge->iq,zero_le->fg
open UInt8 renaming toNat_inj->iu
open ByteArray renaming getElem_eq_getElem_data->ke
set_option linter.unusedVariables false
set_option maxRecDepth 100000
set_option maxHeartbeats 8000000
namespace Go.Proofs.YtbjalbcdbgcgdaaGreat.bld
open Go.RowKit bG sl
abbrev me (b:Nat):Value:=aH b 0
theorem afI (b:Nat) (v:Value):Ct Tryz.prog 268 [me b] [box b [me b,v] 313] fun r H'=>r= .tuple #[]∧H'=[box b [me b,v] 313]:=
 ⟨fun Fr w hw => by
  have hb : w.heap[b]? = some (.cells #[me b, v] 313 (0, 0)) := hw.head;exact (Any.Builder_copyCheck_used avC Tryz.iX.toX72 b w (by rw [Lib.cell_of_heap hb]; rfl)).mono fun e w' ⟨he, hw'⟩ => ⟨_, _, he, ⟨rfl, rfl⟩, by rw [hw']; exact hw⟩⟩
theorem anV (b:Nat) (v:Value):Ct Tryz.prog 268 [me b] [box b [.pointer none,v] 313] fun r H'=>r= .tuple #[]∧H'=[box b [me b,v] 313]:=
 ⟨fun Fr w hw => by
  have hb:w.heap[b]? =some (.cells #[.pointer none,v] 313 (0,0)):=hw.head;refine (Any.Builder_copyCheck_fresh avC Tryz.iX.toX72 b w (by rw[Lib.cell_of_heap hb];rfl) (by simp [World.shape?,hb];rfl) (by simp [World.frozen?,hb])).mono fun e w' ⟨he,hw'⟩=>⟨_,_,he,⟨rfl,rfl⟩, ?_⟩
  subst hw';have hg := Lib.grownBy_setCell w b 0 (me b);exact aD.pA hw rfl ⟨hg.os, hg.tape, hg.output, hg.size, fun k hk hn => hg.block k hk fun e => hn (by cases e; rfl)⟩ (Lib.heap_setCell_same (i := 0) hb _) fun k hk => .inl hk⟩
end Go.Proofs.YtbjalbcdbgcgdaaGreat.bld
namespace Go.Proofs.YtbjalbcdbgcgdaaGreat.sl
open Go.RowKit bG
section
variable {P:Program} {n:Nat} {F:dF} {H R:List Ent} {o:Oper} {x y z:Operand} {v u z':Value} {T S:TypeId}
theorem FE {t m c:Nat} {a:Addr} (ho:o.op= .call { callee:= .builtin .unsafeSliceData,args:= #[x],argTypes:= #[t] }) (hx:ev F x=some (.slice (some a) m c)) (hc:0<c):Qt P n o F H (.pointer (some a)):=fun w a' ha hw=>by
 simp [execOp,ho,resolve,invoke,builtin,ha.eval hx,Lib.run_unsafeSliceData_row _ _ _ a m c (by omega)]
theorem zG {t m c:Nat} (ho:o.op= .call { callee:= .builtin .unsafeSliceData,args:= #[x],argTypes:= #[t] }) (hx:ev F x=some (.slice none m c)):Qt P n o F H (.pointer none):=fun w a' ha hw=>by
 simp [execOp,ho,resolve,invoke,builtin,ha.eval hx,Lib.run_unsafeSliceData_nil]
theorem sU {pt it:Nat} {q:Option Addr} (ho:o.op= .call { callee:= .builtin .unsafeString,args:= #[x,y],argTypes:= #[pt,it] }) (hx:ev F x=some (.pointer q)) (hy:ev F y=some (.int .i64 0)):Qt P n o F H (.string (str [])):=fun w a' ha hw=>by
 have h:=Lib.run_unsafeString_none (P:=P) a' pt it o.type q;simp only[execOp,ho,resolve,invoke,builtin,dn,eh,eo,ha.eval hx,ha.eval hy,Sem.run_bind,Sem.run_pure,Result.andThen_ok,h];rfl
theorem VS (w:World) (g k:Nat):mP (fun b=>b=g) w (w.freeze ⟨g,0,none⟩ k):=by
 have h:=Lib.below_freeze (B:=0) (Below.refl 0 w) (p:=⟨g,0,none⟩) (fg _) k;refine⟨h.os,h.tape,h.output,h.size,fun b hb hn=> ?_⟩;unfold World.freeze;split
 ·rfl
 ·simp only[Array.getElem?_modify];rw[if_neg (fun e=>hn e.symm)]
theorem DY {pt it e g c:Nat} {l:List UInt8} (hp:P.underlying pt=some (.pointer e)) (hc:P.cellsOf e=1) (ho:o.op= .call { callee:= .builtin .unsafeString,args:= #[x,y],argTypes:= #[pt,it] }) (hx:ev F x=some (.pointer (some ⟨g,0,none⟩))) (hy:ev F y=some (.int .i64 (l.length:Int))) (p:bF (own (.slice (some ⟨g,0,none⟩) l.length c) e 1 l.length (flat fY l)) H R) (h0:l≠[]):
  cJ P n o F H fun r H'=>r= .string (str l)∧H'=R:=fun Q a w next ha hw hn=>by
 have hw':=hw.perm p.perm;have hown:w.ownsRow 0 e 1 (.slice (some ⟨g,0,none⟩) l.length c) l.length (flat fY l):=hw'.head;rcases hown.2 with⟨h,_⟩|⟨g',cap,cur,h,hb0,hg,h2,h3,h4,h5⟩
 ·cases h
 ·cases h;have hr := Lib.run_unsafeString_row (P := P) w pt it o.type e hp hc g cur.size (by simp [World.shape?, hg]) l h0 (by omega) (by unfold maxLen at h3; omega) (by
   intro j b hj;exact hown.cells (g := g) rfl j _ (by rw [zF]; simp [Lib.byteCells, hj]))
  unfold Oper.wp;simp only[execOp,ho,resolve,invoke,builtin,dn,eh,eo,ha.eval hx,ha.eval hy,Sem.run_bind,Sem.run_pure,Result.andThen_ok,hr,Oper.upon];refine hn _ _ _ ⟨rfl,rfl⟩ ?_;have hp2:=List.pairwise_cons.1 hw'.2;exact⟨fun f hf=>Ent.WQ (hw'.1 f (List.mem_cons_of_mem _ hf)) (VS w g _) fun b hb hbg=>hp2.1 f hf (.inl rfl) b (by subst hbg;rfl) hb,hp2.2⟩
end
end Go.Proofs.YtbjalbcdbgcgdaaGreat.sl
namespace Go.Proofs.YtbjalbcdbgcgdaaGreat.bld
open Go.RowKit bG sl
attribute [local irreducible] box own sl gH aH bC Qt cJ cG dC dG eO
theorem abA (b c:Nat) (q:Option Addr) (p:Value) (l:List UInt8) (h0:l≠[]):
  Ct Tryz.prog 226 [aH b 0] [box b [p, .slice q l.length c] 313,own (.slice q l.length c) 5 1 l.length (flat fY l)] fun r H'=>r= .string (str l)∧H'=[]:=by
 have hl:0<l.length:=by
  rcases Nat.eq_zero_or_pos l.length with h|h
  ·exact absurd (List.eq_nil_of_length_eq_zero h) h0
  ·exact h
 (refine Ye Tryz.func226 Tryz.ntmps226 ?_;intro Fr);refine dN ?_;refine QO aN hl ?_;rintro g rfl hgc;(refine aB (Hq:=[_]) [0] [] rfl (by kernel_rfl) Za ?_);refine gX ?_;(refine aA 10 ?_;refine Oa (l:=by exact (DY (by kernel_rfl) (by kernel_rfl) rfl rfl rfl aN h0)) (k:= ?_);rintro _ _ ⟨rfl,rfl⟩;refine Te ?_;(try refine Da ?_));refine pT ?_;exact Ea (x:=⟨rfl,rfl⟩)
theorem afJ (b:Nat) (p:Value):
  Ct Tryz.prog 226 [aH b 0] [box b [p, .slice none 0 0] 313] fun r H'=>r= .string (str [])∧H'=[]:=by
 (refine Ye Tryz.func226 Tryz.ntmps226 ?_;intro Fr);refine dN ?_;(refine aB (Hq:=[_]) [0] [] rfl (by kernel_rfl) Za ?_);refine pT ?_;exact Ea (x:=⟨rfl,rfl⟩)
end Go.Proofs.YtbjalbcdbgcgdaaGreat.bld
namespace Go.Proofs.YtbjalbcdbgcgdaaGreat.bld
open Go.RowKit bG sl
theorem bH (b:Nat) (p v:Value) (hp:p= .pointer none∨p=me b):Ct Tryz.prog 268 [me b] [box b [p,v] 313] fun r H'=>r= .tuple #[]∧H'=[box b [me b,v] 313]:=by
 rcases hp with rfl|rfl
 ·exact anV b v
 ·exact afI b v
attribute [local irreducible] box own sl gH aH bC Qt cJ cG dC dG eO
theorem yB (b:Nat) (p:Value) (hp:p= .pointer none∨p=me b) (q0:Option Addr) (c0:Nat) (xs l:List UInt8) (hm:xs.length+l.length≤140737488355328):
  Ct Tryz.prog 225 [aH b 0, .string (str l)] [box b [p, .slice q0 xs.length c0] 313,own (.slice q0 xs.length c0) 5 1 xs.length (flat fY xs)] fun r H'=> ∃ q c,r= .tuple #[.int .i64 (l.length:Int), .nilIface]∧H'=[box b [me b, .slice q (xs++l).length c] 313,own (.slice q (xs++l).length c) 5 1 (xs++l).length (flat fY (xs++l))]:=by
 have C0:=bH b p (.slice q0 xs.length c0) hp;rw[List.length_append];(refine Ye Tryz.func225 Tryz.ntmps225 ?_;intro Fr);refine aZ ?_;(refine Ca (C0) ?_;rintro _ _ ⟨_,⟨rfl,rfl⟩,rfl⟩;refine Da ?_);refine aZ ?_;refine aI wt rfl (NB rfl rfl rfl aN hm) ?_;rintro _ _ ⟨q,c,rfl,hnil,rfl⟩;refine aZ ?_;exact Ea (x:=⟨q,c,rfl,rfl⟩)
theorem NC (b:Nat) (p:Value) (hp:p= .pointer none∨p=me b) (q0:Option Addr) (c0:Nat) (xs:List UInt8) (x:UInt8) (hm:xs.length+1≤140737488355328):
  Ct Tryz.prog 258 [aH b 0, .int .u8 (x.toNat:Int)] [box b [p, .slice q0 xs.length c0] 313,own (.slice q0 xs.length c0) 5 1 xs.length (flat fY xs)] fun r H'=> ∃ q c,r= .nilIface∧H'=[box b [me b, .slice q (xs++[x]).length c] 313,own (.slice q (xs++[x]).length c) 5 1 (xs++[x]).length (flat fY (xs++[x]))]:=by
 have C0:=bH b p (.slice q0 xs.length c0) hp;(refine Ye Tryz.func258 Tryz.ntmps258 ?_;intro Fr);refine aZ ?_;(refine Ca (C0) ?_;rintro _ _ ⟨_,⟨rfl,rfl⟩,rfl⟩;refine Da ?_);(repeat' (first|refine Wa ?_|refine We ?_|(refine Wq ?_;intro q)|fail));(refine aI wt (by rfl) (by first|exact Ma (fY) [x] rfl|exact Mb (fY) [x] rfl) ?_;rintro _ _ ⟨q,c,rfl,rfl⟩);refine aZ ?_;exact Ea (x:=⟨q,c,rfl,rfl⟩)
theorem ND (b c:Nat) (q:Option Addr) (p:Value) (l:List UInt8) (h0:l=[]→q=none∧c=0):Ct Tryz.prog 226 [aH b 0] [box b [p, .slice q l.length c] 313,own (.slice q l.length c) 5 1 l.length (flat fY l)] fun r H'=>r= .string (str l)∧H'=[]:=by
 by_cases h:l=[]
 ·obtain⟨rfl,rfl⟩:=h0 h;subst h;exact rT (fun Fr=>HSub.nZ (List.Sublist.cons_cons _ (List.Sublist.cons _ (List.Sublist.refl _)))) (afJ b p)
 ·exact abA b c q p l h
end Go.Proofs.YtbjalbcdbgcgdaaGreat.bld
namespace Go.Proofs.YtbjalbcdbgcgdaaGreat.file
open Go.RowKit bG sl bld
attribute [local irreducible] box own sl gH aH bC Qt cJ cG dC dG eO
theorem anW (q:Option Addr) (c:Nat) (n:Nat) (ps:List (List UInt8)) (hg:eT n ps):
  Ct Tryz.prog 155 [.agg #[.int .i64 (n:Int), .slice q ps.length c]] [sl 1 (.slice q ps.length c) (ps.map fT)] fun v H'=>v= .string (str (jM n ps))∧H'=[]:=by
 have hn:=hg.1;have hpl:=hg.2.1;have hbl:=fO n ps;(refine Ye Tryz.func155 Tryz.ntmps155 ?_;intro Fr);(repeat' (first|refine Wa ?_|refine Wk ?_|refine We ?_|(refine Wb ?_;intro b)|(refine Wq ?_;intro q)|(refine Ws ?_ ?_<;>intro h)|refine Wz ?_|fail));refine aT (aY _ 5 1) ?_;(refine aC (σ:=Nat×Value×Option Addr×Nat×List UInt8) (fun s=>s.1≤ps.length∧s.2.2.2.2=jM (min n (512*s.1)) ps∧(s.2.1= .pointer none∨s.2.1=me b)∧(s.1=0→s.2.2.1=none∧s.2.2.2.1=0)) (fun s=>[(9, .int .i64 (s.1:Int))]) (fun s=>[own (.slice s.2.2.1 s.2.2.2.2.length s.2.2.2.1) 5 1 s.2.2.2.2.length (flat fY s.2.2.2.2),box b [s.2.1, .slice s.2.2.1 s.2.2.2.2.length s.2.2.2.1] 313]) _ (fun s=>ps.length-s.1) ((0, .pointer none,none,0,[])) (by exact⟨fg _,by simp [jM], .inl rfl,fun _=>⟨rfl,rfl⟩⟩) (by exact gA) Zb (fun⟨k,p,qx,cx,l⟩ ⟨hk,hl,hp,h0⟩=> ?_);refine Da ?_);dsimp only at hk hl hp h0;rcases iq k ps.length with hlt|hge
 ·obtain⟨s,hsk⟩: ∃ s,ps[k]? =some s:=⟨_,aj hlt⟩;have hst:=oR hg hsk;rw[←hl] at hst;have hkn:k<aJ n:=by omega
  have h5:=uM hkn;have hll:=kK n k;have L0:=AY n k (by omega) (by omega);have R0:=MT (bZ n k) (by omega);have hsl:=BC hg hsk;have hlen:l.length≤4096:=by rw[hl,fO];omega
  by_cases e1:s=[]
  ·have e2:(s==[])=true:=by rw[e1];rfl
   have W0:=yB b p hp qx cx l (eb (bZ n k) 0) (by rw[List.length_replicate];omega);have e3:FZ (bZ n k) s=eb (bZ n k) 0:=by unfold FZ;rw[if_pos e1]
   rw[e3] at hst;clear hst hsl;(repeat' (first|refine Wa ?_|refine Wk ?_|refine We ?_|(refine Wb ?_;intro b)|(refine Wq ?_;intro q)|refine Wc (L0 ..) ?_|refine Wc (R0 ..) ?_|(refine Ws ?_ ?_<;>intro h)|refine Wz ?_|fail));(refine Ca (W0) ?_;rintro _ _ ⟨_,⟨qy,cy,rfl,rfl⟩,rfl⟩;refine Da ?_);(repeat' (first|refine Wa ?_|refine Wk ?_|refine We ?_|(refine Wb ?_;intro b)|(refine Wq ?_;intro q)|(refine Ws ?_ ?_<;>intro h)|refine Wz ?_|fail));refine Ee ((k+1,me b,qy,cy,l++eb (bZ n k) 0)) ?_ ?_
   ·have hst:=oR hg hsk;rw[e3, ←hl] at hst;exact⟨hlt,hst, .inr rfl,fun h=>absurd h (by omega)⟩
   ·show ps.length-(k+1)<ps.length-k;omega
  ·have e2:(s==[])=false:=by simpa using e1
   have W0:=yB b p hp qx cx l s (by omega);have e3:FZ (bZ n k) s=s:=by unfold FZ;rw[if_neg e1]
   rw[e3] at hst;clear hst hsl;(repeat' (first|refine Wa ?_|refine Wk ?_|refine We ?_|(refine Wb ?_;intro b)|(refine Wq ?_;intro q)|refine Wc (L0 ..) ?_|refine Wc (R0 ..) ?_|(refine Ws ?_ ?_<;>intro h)|refine Wz ?_|fail));(refine Ca (W0) ?_;rintro _ _ ⟨_,⟨qy,cy,rfl,rfl⟩,rfl⟩;refine Da ?_);(repeat' (first|refine Wa ?_|refine Wk ?_|refine We ?_|(refine Wb ?_;intro b)|(refine Wq ?_;intro q)|(refine Ws ?_ ?_<;>intro h)|refine Wz ?_|fail));refine Ee ((k+1,me b,qy,cy,l++s)) ?_ ?_
   ·have hst:=oR hg hsk;rw[e3, ←hl] at hst;exact⟨hlt,hst, .inr rfl,fun h=>absurd h (by omega)⟩
   ·show ps.length-(k+1)<ps.length-k;omega
 ·have hln:l=jM n ps:=by
   rw[hl];congr 1;have:k=aJ n:=by omega
   unfold aJ at this;omega
  have S0 := ND b cx qx p l fun h => h0 (by
   rw [h] at hln;have := congrArg List.length hln;rw [fO, List.length_nil] at this;rw [← this] at hpl;have : aJ 0 = 0 := rfl;omega)
  rw[←hln];clear hln hl;(repeat' (first|refine Wa ?_|refine Wk ?_|refine We ?_|(refine Wb ?_;intro b)|(refine Wq ?_;intro q)|refine Wc (S0 ..) ?_|(refine Ws ?_ ?_<;>intro h)|refine Wz ?_|fail));exact Ea (x:=⟨rfl,rfl⟩)
theorem aAV (q:Option Addr) (c:Nat) (n:Nat) (ps:List (List UInt8)) (hg:eT n ps) (at' cnt:Nat) (ha:at'≤9223372036854775807) (hc:cnt≤9223372036854775807):
  Ct Tryz.prog 73 [.agg #[.int .i64 (n:Int), .slice q ps.length c], .int .i64 (at':Int), .int .i64 (cnt:Int)] [sl 1 (.slice q ps.length c) (ps.map fT)] fun v H'=>v= .tuple #[.string (str (gG n ps at' cnt)), .int .i64 0]∧H'=[]:=by
 have hn:=hg.1;have hpl:=hg.2.1;have C0:=bH q c n ps (by unfold aJ at hpl;omega) fun s h=>by
  obtain⟨i,hi⟩:=je h;have:=BC hg hi;have:=kK n i;omega
 rw[kY hg] at C0;rcases iq at' n with h|h
 ·have W0:=anW q c n ps hg;have hr:=afH (at':=at') (cnt:=cnt) ps (Nat.le_of_lt h);rw[←hr,List.drop_take];have hbl:=fO n ps;generalize jM n ps=bs at*;have hmI:(at':Int)+min (cnt:Int) ((n:Int)-(at':Int))=((at'+min cnt (n-at'):Nat):Int):=by omega
  have hlo:at'≤at'+min cnt (n-at'):=by omega
  have hhi:at'+min cnt (n-at')≤bs.length:=by omega
  clear hr;(refine Ye Tryz.func73 Tryz.ntmps73 ?_;intro Fr);(repeat' (first|refine Wa ?_|refine Wk ?_|refine We ?_|(refine Wb ?_;intro b)|(refine Wq ?_;intro q)|refine Wc (C0 ..) ?_|refine Wc (W0 ..) ?_|(refine Ws ?_ ?_<;>intro h)|refine Wz ?_|fail));exact Ea (x:=⟨rfl,rfl⟩)
 ·rw[CZ _ h];(refine Ye Tryz.func73 Tryz.ntmps73 ?_;intro Fr);(repeat' (first|refine Wa ?_|refine Wk ?_|refine We ?_|(refine Wb ?_;intro b)|(refine Wq ?_;intro q)|refine Wc (C0 ..) ?_|(refine Ws ?_ ?_<;>intro h)|refine Wz ?_|fail));exact Ea (x:=⟨rfl,rfl⟩)
end Go.Proofs.YtbjalbcdbgcgdaaGreat.file
namespace Go.Proofs.YtbjalbcdbgcgdaaGreat.yQ
open Go.RowKit bG sl
instance:bX Tryz.prog 333:=⟨by kernel_rfl⟩
attribute [local irreducible] box own sl gH aH bC Qt cJ cG dC dG eO
theorem anX (r:Int) (h0:0≤r) (h1:r≤2147483647) (hv:Utf8.valid r=true):Ct Tryz.prog 333 [.int .i32 r] [] fun v H'=>v= .bool true∧H'=[]:=by
 unfold Utf8.valid at hv;simp at hv;by_cases h:r<55296
 ·clear hv;(refine Ye Tryz.func333 Tryz.ntmps333 ?_;intro Fr);refine aZ ?_;exact Ea (x:=⟨rfl,rfl⟩)
 ·have h2:57343<r:=by omega
  have h3:r≤1114111:=by omega
  clear hv;(refine Ye Tryz.func333 Tryz.ntmps333 ?_;intro Fr);refine aZ ?_;exact Ea (x:=⟨rfl,rfl⟩)
theorem DZ (l:List UInt8) (c:Int):Ct Tryz.prog 209 [.string (str l), .int .u8 c] [] fun v H'=>v= .int .i64 (Lib.indexByte l c.toNat.toUInt8)∧H'=[]:=
 aW fun w _=>(Tryz.strings_IndexByte (str l) c w).mono fun e w' ⟨h1,h2⟩=>⟨h1,by rw[h2];exact Below.refl _ _⟩
theorem aAW (r:Int) (hv:Utf8.valid r=true) (h:128≤r): ∃ e:List UInt8,Utf8.encode r=str e∧2≤e.length∧e.length≤4∧ ∃ x:UInt8,e[e.length-1]? =some x∧128≤x.toNat:=by
 obtain⟨h1,h2,h3⟩:=encode_facts r hv h;have hs:(Utf8.encode r).size=(Utf8.encode r).data.toList.length:=by simp
 refine⟨(Utf8.encode r).data.toList,rfl,by omega,by omega,(Utf8.encode r)[(Utf8.encode r).size-1]'(by omega), ?_,h3 (by omega)⟩;rw[←hs];simp [ke]
theorem anY (r:Int) (h0:0≤r) (h1:r≤2147483647) (hr:r<128∨r=65533∨Utf8.valid r=true):
  Ct Tryz.prog 295 [.string (str [47,0]), .int .i32 r] [] fun v H'=>v= .int .i64 (if r=47 then 0 else if r=0 then 1 else -1)∧H'=[]:=by
 by_cases hlt:r<128
 ·have hw:IntKind.u8.wrap r=r:=QJ (by omega);have I0:=DZ [47,0] r;have e:Lib.indexByte [47,0] r.toNat.toUInt8=if r=47 then 0 else if r=0 then 1 else -1:=by
   obtain⟨n,rfl⟩:=Int.eq_ofNat_of_zero_le h0;have hn:n<128:=by omega
   clear I0 hw hr h0 h1 hlt;revert n;decide +kernel
  rw[e] at I0;generalize (if r=47 then (0:Int) else if r=0 then 1 else -1)=res at*;clear e hr;(refine Ye Tryz.func295 Tryz.ntmps295 ?_;intro Fr);(repeat' (first|refine Wa ?_|refine We ?_|refine Wc (I0 ..) ?_|fail));exact Ea (x:=⟨rfl,rfl⟩)
 ·have e:(if r=47 then (0:Int) else if r=0 then 1 else -1)= -1:=by rw[if_neg (by omega),if_neg (by omega)]
  rw[e];clear e;by_cases h3:r=65533
  ·subst h3;clear hr;(refine Ye Tryz.func295 Tryz.ntmps295 ?_;intro Fr);refine aZ ?_;(refine aI wt rfl (SD rfl rfl) ?_;rintro _ _ ⟨b,rfl,rfl⟩);refine eU ?_;(refine aC (σ:=Nat) (fun p=>p≤2) (fun p=>[]) (fun p=>[iter b [47,0] p]) _ (fun p=>2-p) (0) Zp (by exact gA) Zb (fun p hp=> ?_);refine Da ?_);rcases iq p 1 with hp1|hp1
   ·have:p=0:=by omega
    subst this;refine aZ ?_;(refine aI wt rfl (MQ rfl rfl aN (by decide)) ?_;rintro _ _ ⟨rfl,rfl⟩);rw[show iC [47,0] 0=47 from by decide +kernel,show nB [47,0] 0=1 from by decide +kernel];refine aZ ?_;refine Ee (1) ?_ ?_
    ·decide
    ·decide
   ·rcases iq p 2 with hp2|hp2
    ·have:p=1:=by omega
     subst this;refine aZ ?_;(refine aI wt rfl (MQ rfl rfl aN (by decide)) ?_;rintro _ _ ⟨rfl,rfl⟩);rw[show iC [47,0] 1=0 from by decide +kernel,show nB [47,0] 1=1 from by decide +kernel];refine aZ ?_;refine Ee (2) ?_ ?_
     ·decide
     ·decide
    ·refine aZ ?_;(refine aI wt rfl (AS rfl rfl aN hp2) ?_;rintro _ _ ⟨rfl,rfl⟩);refine aZ ?_;exact Ea (x:=⟨rfl,rfl⟩)
  ·have hv:=(hr.resolve_left hlt).resolve_left h3;have V0:=anX r h0 h1 hv;obtain⟨en,he,hl2,hl4,x,hx,hx8⟩:=aAW r hv (by omega);clear hr hv;(refine Ye Tryz.func295 Tryz.ntmps295 ?_;intro Fr);(repeat' (first|refine Wa ?_|refine We ?_|refine Wc (V0 ..) ?_|fail));refine dJ wt (by rfl) (anB rfl rfl) ?_;rw[he];have hc:(en.length:Int)-1=((en.length-1:Nat):Int):=by omega
   refine aZ ?_;(refine cK (σ:=Unit) (fun _=>True) (fun _=>[]) (fun _=>0) (()) (by trivial) (by exact gA) (fun u hu=> ?_);refine Da ?_);by_cases h2:en.length=2
   ·have hlt1:(en.length:Int)-1<2:=by omega
    obtain⟨y,hy,hy0⟩: ∃ y:UInt8,([47,0]:List UInt8)[en.length-1]? =some y∧y.toNat=0:=⟨0,by rw[h2];rfl,rfl⟩;have I0:=DZ [] (x.toNat:Int);rw[show Lib.indexByte [] ((x.toNat:Int)).toNat.toUInt8= -1 from rfl] at I0;have hd:([47,0]:List UInt8).drop (en.length-1+1)=[]:=by rw[h2];rfl
    have hc2:(en.length:Int)-1+1=((en.length-1+1:Nat):Int):=by omega
    clear h2;(repeat' (first|refine Wa ?_|refine Wk ?_|refine We ?_|refine Wc (I0 ..) ?_|fail));exact Ea (x:=⟨rfl,rfl⟩)
   ·have hge: ¬ (en.length:Int)-1<(([47,0]:List UInt8).length:Int):=by
     show ¬ (en.length:Int)-1<2;omega
    refine aZ ?_;exact Ea (x:=⟨rfl,rfl⟩)
def NF (l:List UInt8):Bool:=decide (47∈l∨0∈l)
theorem VT (l:List UInt8):(0≤Lib.indexAny l [47,0])↔(47∈l∨0∈l):=by
 induction l with
 |nil=>simp [Lib.indexAny]
 |cons b l ih=>
  have h1:=Lib.indexAny_ge [47,0] l;unfold Lib.indexAny;by_cases hb:([47,0]:List UInt8).contains b=true
  ·rw[if_pos hb];simp only[List.contains_eq_mem,decide_eq_true_eq,aw,List.not_mem_nil,or_false] at hb;refine⟨fun _=> ?_,fun _=>by decide⟩;rcases hb with rfl|rfl
   ·exact .inl bc
   ·exact .inr bc
  ·rw[if_neg hb];have hb': ¬ (b=47∨b=0):=by simpa using hb
   have e:(47∈b::l∨0∈b::l)↔(47∈l∨0∈l):=by
    simp only[aw];constructor
    ·rintro ((h|h)|(h|h))
     ·exact absurd (.inl h.symm) hb'
     ·exact .inl h
     ·exact absurd (.inr h.symm) hb'
     ·exact .inr h
    ·rintro (h|h)
     ·exact .inl (.inr h)
     ·exact .inr (.inr h)
   rw[e, ←ih];split
   ·rename_i h2;have h3:Lib.indexAny l [47,0]= -1:=by simpa using h2
    constructor
    ·intro h;omega
    ·intro h;omega
   ·rename_i h2;have h3:Lib.indexAny l [47,0]≠ -1:=by simpa using h2
    constructor
    ·intro h;omega
    ·intro h;omega
theorem wU {l:List UInt8} {p:Nat} {c:UInt8} (h:c∈l.take p): ∃ j,j<p∧j<l.length∧l.getD j 0=c:=by
 obtain⟨j,hj⟩:=je h;have h1:=(List.getElem?_eq_some_iff.1 hj).1;rw[List.length_take] at h1;rw[List.getElem?_take_of_lt (by omega)] at hj;exact⟨j,by omega,by omega,by rw[iw,hj];rfl⟩
theorem avD {l:List UInt8} {j:Nat} (h:j<l.length):l.getD j 0∈l:=by
 rw[iw,aj h];exact List.getElem_mem h
theorem afK (l:List UInt8) (h8:l.length≤8):
  Ct Tryz.prog 255 [.string (str l), .string (str [47,0])] [] fun v H'=> ∃ r:Int,(0≤r↔(47∈l∨0∈l))∧v= .int .i64 r∧H'=[]:=by
 have h2:(([47,0]:List UInt8).length:Int)=2:=rfl;have e1:(([47,0]:List UInt8)==[])=false:=rfl;have P0:Ct Tryz.prog 296 [.int .i64 (l.length:Int)] [] fun v H'=>v= .bool false∧H'=[]:=by
  (refine Ye Tryz.func296 Tryz.ntmps296 ?_;intro Fr);refine aZ ?_;exact Ea (x:=⟨rfl,rfl⟩)
 (refine Ye Tryz.func255 Tryz.ntmps255 ?_;intro Fr);(repeat' (first|refine Wa ?_|refine We ?_|refine Wc (P0 ..) ?_|fail));(refine aI wt rfl (SD rfl rfl) ?_;rintro _ _ ⟨b,rfl,rfl⟩);refine eU ?_;(refine aC (σ:=Nat) (fun p=>p≤l.length∧ ∀ j,j<p→(l.getD j 0)≠47∧(l.getD j 0)≠0) (fun p=>[]) (fun p=>[iter b l p]) _ (fun p=>l.length-p) (0) (by exact⟨fg _,fun j h=>absurd h (by omega)⟩) (by exact gA) Zb (fun p ⟨hp,hd⟩=> ?_);refine Da ?_);rcases iq p l.length with hlt|hge
 ·obtain⟨f1,f2,f3,f4,f5⟩:=aeZ hlt;have f6:=aAL l p;have I0:=anY (iC l p) (by omega) (by omega) (by rcases f5 with h|h|h;exact .inl (by omega);exact .inr (.inl (by omega));exact .inr (.inr h));refine aZ ?_;(refine aI wt rfl (MQ rfl rfl aN hlt) ?_;rintro _ _ ⟨rfl,rfl⟩);by_cases hb:iC l p=47∨iC l p=0
  ·obtain⟨g1,g2⟩:=f3 (by omega);obtain⟨r,hr,hr0⟩: ∃ r:Int,(if (iC l p:Int)=47 then (0:Int) else if (iC l p:Int)=0 then 1 else -1)=r∧0≤r:=by
    rcases hb with h|h
    ·exact⟨0,by rw[h];rfl,by decide⟩
    ·exact⟨1,by rw[h];rfl,by decide⟩
   rw[hr] at I0;have hm:(47∈l∨0∈l):=by
    have hg:=avD hlt;rcases hb with h|h
    ·exact .inl (by rwa [show l.getD p 0=47 from iu.1 (by rw[g2,h];rfl)] at hg)
    ·exact .inr (by rwa [show l.getD p 0=0 from iu.1 (by rw[g2,h];rfl)] at hg)
   clear hr hb f3 f4 f5;(repeat' (first|refine Wa ?_|refine We ?_|refine Wc (I0 ..) ?_|fail));exact Ea (x:=⟨(p:Int),⟨fun _=>hm,fun _=>by omega⟩,rfl,rfl⟩)
  ·have hr:(if (iC l p:Int)=47 then (0:Int) else if (iC l p:Int)=0 then 1 else -1)= -1:=by rw[if_neg (by omega),if_neg (by omega)]
   rw[hr] at I0;have hn: ∀ k,k<nB l p→(l.getD (p+k) 0)≠47∧(l.getD (p+k) 0)≠0:=by
    intro k hk;by_cases h128:iC l p<128
    ·obtain⟨g1,g2⟩:=f3 h128;have:k=0:=by omega
     subst this;rw[Nat.add_zero];refine⟨fun h=>hb (.inl ?_),fun h=>hb (.inr ?_)⟩
     ·rw[←g2,h];rfl
     ·rw[←g2,h];rfl
    ·have g:=f4 (by omega) k hk;refine⟨fun h=> ?_,fun h=> ?_⟩
     ·rw[h] at g;exact absurd g (by decide)
     ·rw[h] at g;exact absurd g (by decide)
   clear hr hb f3 f4 f5;(repeat' (first|refine Wa ?_|refine We ?_|refine Wc (I0 ..) ?_|fail));refine Ee (p+nB l p) ?_ ?_
   ·refine⟨f2,fun j hj=> ?_⟩;rcases iq j p with h|h
    ·exact hd j h
    ·have:=hn (j-p) (by omega);rwa [show p+(j-p)=j from by omega] at this
   ·show l.length-(p+nB l p)<l.length-p;omega
 ·have hm: ¬ (47∈l∨0∈l):=by
   rintro (h|h)
   ·rw[←jb (l:=l)] at h;obtain⟨j,h1,h2,h3⟩:=wU h;exact (hd j (by omega)).1 h3
   ·rw[←jb (l:=l)] at h;obtain⟨j,h1,h2,h3⟩:=wU h;exact (hd j (by omega)).2 h3
  refine aZ ?_;(refine aI wt rfl (AS rfl rfl aN hge) ?_;rintro _ _ ⟨rfl,rfl⟩);refine aZ ?_;exact Ea (x:=⟨-1,⟨fun h=>absurd h (by decide),fun h=>absurd h hm⟩,rfl,rfl⟩)
theorem anZ (l:List UInt8) (h8:8<l.length) (hs:l.length<4294967281):Ct Tryz.prog 255 [.string (str l), .string (str [47,0])] [] fun v H'=> ∃ r:Int,(0≤r↔(47∈l∨0∈l))∧v= .int .i64 r∧H'=[]:=
 adH (aW fun w _ => (Any.strings_IndexAny_long { Tryz.aAK with } (zero_of_info (n := 256) (by kernel_rfl)).1 (by kernel_rfl) (str l) (str [47, 0]) w (by decide) (by rw [bP]; exact h8) (by rw [bP]; exact hs) (by decide) (fun j c hj => by
  match j,hj with
  |0,hj=>cases hj;decide
  |1,hj=>cases hj;decide
  | j + 2, hj => cases hj)).mono fun e w' ⟨h1, h2⟩ => ⟨h1, by rw [h2]; exact ((Below.refl _ _).alloc (Nat.le_refl _) _).alloc (by simp) _⟩) fun v H' ⟨h1, h2⟩ => ⟨_, VT l, h1, h2⟩
theorem avE (l:List UInt8) (hs:l.length<4294967281):Ct Tryz.prog 255 [.string (str l), .string (str [47,0])] [] fun v H'=> ∃ r:Int,(0≤r↔(47∈l∨0∈l))∧v= .int .i64 r∧H'=[]:=by
 rcases iq 8 l.length with h|h
 ·exact anZ l h hs
 ·exact afK l h
theorem avF (l:List UInt8) (hs:l.length<4294967281):
  Ct Tryz.prog 210 [.string (str l), .string (str [47,0])] [] fun v H'=>v= .bool (NF l)∧H'=[]:=by
 have I0:=avE l hs;unfold NF;by_cases h:47∈l∨0∈l
 ·rw[decide_eq_true h];(refine Ye Tryz.func210 Tryz.ntmps210 ?_;intro Fr);refine aZ ?_;(refine Ca (I0) ?_;rintro _ _ ⟨_,⟨r,hr,rfl,rfl⟩,rfl⟩;(try refine Da ?_));have hr0:=hr.2 h;clear hr;refine eU ?_;exact Ea (x:=⟨rfl,rfl⟩)
 ·rw[decide_eq_false h];(refine Ye Tryz.func210 Tryz.ntmps210 ?_;intro Fr);refine aZ ?_;(refine Ca (I0) ?_;rintro _ _ ⟨_,⟨r,hr,rfl,rfl⟩,rfl⟩;(try refine Da ?_));have hr0: ¬ 0≤r:=fun h2=>h (hr.1 h2)
  clear hr;refine eU ?_;exact Ea (x:=⟨rfl,rfl⟩)
end Go.Proofs.YtbjalbcdbgcgdaaGreat.yQ
namespace Go.Proofs.YtbjalbcdbgcgdaaGreat.yQ
open Go.RowKit bG sl
attribute [local irreducible] box own sl gH aH bC Qt cJ cG dC dG eO
def iN (l:List UInt8):Prop:=l≠[]∧l≠[46]∧l≠[46,46]∧l.length≤12∧NF l=false
instance (l:List UInt8):Decidable (iN l):=by unfold iN;infer_instance
def lP (l:List UInt8):Int:=if iN l then 0 else 11
theorem BD (l:List UInt8) (hs:l.length≤9223372036854775807):
  Ct Tryz.prog 143 [.string (str l)] [] fun v H'=>v= .int .i64 (lP l)∧H'=[]:=by
 have hno: ¬ iN l→lP l=11:=fun h=>by unfold lP;rw[if_neg h]
 by_cases h1:l=[]
 ·rw[hno fun h=>h.1 h1];have e1:(l==[])=true:=by rw[h1];rfl
  (refine Ye Tryz.func143 Tryz.ntmps143 ?_;intro Fr);refine aZ ?_;exact Ea (x:=⟨rfl,rfl⟩)
 ·have e1:(l==[])=false:=by simpa using h1
  by_cases h2:l=[46]
  ·rw[hno fun h=>h.2.1 h2];have e2:(l==[46])=true:=by rw[h2];rfl
   (refine Ye Tryz.func143 Tryz.ntmps143 ?_;intro Fr);refine aZ ?_;exact Ea (x:=⟨rfl,rfl⟩)
  ·have e2:(l==[46])=false:=by simpa using h2
   by_cases h3:l=[46,46]
   ·rw[hno fun h=>h.2.2.1 h3];have e3:(l==[46,46])=true:=by rw[h3];rfl
    (refine Ye Tryz.func143 Tryz.ntmps143 ?_;intro Fr);refine aZ ?_;exact Ea (x:=⟨rfl,rfl⟩)
   ·have e3:(l==[46,46])=false:=by simpa using h3
    by_cases h4:12<l.length
    ·rw[hno fun h=>by have:=h.2.2.2.1;omega];(refine Ye Tryz.func143 Tryz.ntmps143 ?_;intro Fr);refine aZ ?_;exact Ea (x:=⟨rfl,rfl⟩)
    ·have C0:=avF l (by omega);cases hb:NF l with
     |true=>
      rw[hno fun h=>by have:=h.2.2.2.2;rw[hb] at this;cases this];rw[hb] at C0;(refine Ye Tryz.func143 Tryz.ntmps143 ?_;intro Fr);(repeat' (first|refine Wa ?_|refine We ?_|refine Wc (C0 ..) ?_|fail));exact Ea (x:=⟨rfl,rfl⟩)
     |false=>
      have e:lP l=0:=by unfold lP;rw[if_pos ⟨h1,h2,h3,by omega,hb⟩]
      rw[e];rw[hb] at C0;(refine Ye Tryz.func143 Tryz.ntmps143 ?_;intro Fr);(repeat' (first|refine Wa ?_|refine We ?_|refine Wc (C0 ..) ?_|fail));exact Ea (x:=⟨rfl,rfl⟩)
end Go.Proofs.YtbjalbcdbgcgdaaGreat.yQ
