/- FsOps, packed. -/
import Derived.Test.YtbjalbcdbgcgdaaGreatOQ
import Derived.Test.YtbjalbcdbgcgdaaGreatO05
import Derived.Test.YtbjalbcdbgcgdaaGreatO07
import Derived.Test.YtbjalbcdbgcgdaaGreatO00
import Derived.Test.YtbjalbcdbgcgdaaGreatO08
import Derived.Test.YtbjalbcdbgcgdaaGreatO06
open List renaming append_assoc->fu,getD_eq_getElem?_getD->my,getElem?_eq_getElem->ak,length_append->ae,length_cons->dv,length_drop->bq,length_take->ar,mem_cons_of_mem->a8,mem_cons_self->bu,mem_of_getElem?->jg
open Nat renaming add_comm->aao,le_refl->df,lt_or_ge->ig,zero_le->fe
open UInt8 renaming ofNat->ky,ofNat_toNat->aev,toNat_ofNat'->aeu
set_option linter.unusedVariables false
set_option maxRecDepth 100000
set_option maxHeartbeats 8000000
namespace Go.Proofs.YtbjalbcdbgcgdaaGreat
open Go.RowKit bO sl
namespace cO
open fix cK
def ahR (p:Int×Int):List UInt8:=dN p.1.toNat 1++dN p.2.toNat 1
def tG (l:List (Int×Int)):List UInt8:=l.flatMap ahR
def xJ (k g z:Int):List UInt8:=dN k.toNat 1++dN g.toNat 4++dN z.toNat 2
def iU (k g z:Int) (ps:List (Int×Int)):List UInt8:=xJ k g z++tG ps
attribute [local irreducible] box own sl bL aH bJ Qt cN cM dG dL eQ
theorem xN (k g z:Int) (q:Option Addr) (c:Nat) (ps:List (Int×Int)) (hk:0≤k∧k≤2147483647) (hg:0≤g∧g≤2147483647) (hz:0≤z∧z≤2147483647) (hl:ps.length≤1000) (hpt: ∀ p∈ps,gT p) (h:lV k g z ps=0):
  Ct Tryz.prog 250 [.agg #[.int .i64 k, .int .i64 g, .int .i64 z, .slice q ps.length c]] [sl 2 (.slice q ps.length c) (ps.map jP)] fun v H'=>v= .tuple #[.string (str (iU k g z ps)), .int .i64 0]∧H'=[]:=by
 have C0:=RP k g z q c ps (wfi hk) (wfi hg) (wfi hz) Z8;rw[h] at C0;have F1:=nN k 1 Z9 Z8;have F2:=nN g 4 Z9 Z8;have F3:=nN z 2 Z9 Z8;have l1:=cJ k.toNat 1;have l2:=cJ g.toNat 4;have l3:=cJ z.toNat 2;unfold iU xJ;generalize dN k.toNat 1=f1 at*;generalize dN g.toNat 4=f2 at*;generalize dN z.toNat 2=f3 at*;(refine Ye Tryz.func250 Tryz.ntmps250 ?_;intro Fr);(repeat' (first|refine Y1 ?_|(refine Wb ?_;intro b)|(refine Wq ?_;intro q)|refine Wc (C0 ..) ?_|refine Wc (F1 ..) ?_|refine Wc (F2 ..) ?_|refine Wc (F3 ..) ?_|(refine Ws ?_ ?_<;>intro h)|refine Wz ?_|fail));(refine aC (σ:=Nat×List UInt8) (fun s=>s.1≤ps.length∧s.2=f1++f2++f3++tG (ps.take s.1)∧s.2.length≤7+2*s.1) (fun s=>[(30, .int .i64 (s.1:Int)),(5, .string (str s.2))]) (fun s=>[]) _ (fun s=>ps.length-s.1) ((0,f1++f2++f3)) (by exact⟨fe _,(List.append_nil _).symm,by simp only[ae];omega⟩) Ze Zb (fun⟨j,o⟩ ⟨hj,ho,zy⟩=> ?_);refine Da ?_);dsimp only at hj ho zy ⊢;rcases ig j ps.length with hlt|hge
 ·obtain⟨p,hp⟩: ∃ p,ps[j]? =some p:=⟨_,ak hlt⟩;obtain⟨o1,o2,o3,o4,_,_⟩:=hpt p (jg hp);have G1:=nN p.1 1 Z9 Z8;have G2:=nN p.2 1 Z9 Z8;have hn:tG (ps.take (j+1))=tG (ps.take j)++(dN p.1.toNat 1++dN p.2.toNat 1):=by unfold tG;rw[List.take_add_one,hp,List.flatMap_append];simp [ahR]
  have m1:=cJ p.1.toNat 1;have m2:=cJ p.2.toNat 1;generalize dN p.1.toNat 1=e1 at*;generalize dN p.2.toNat 1=e2 at*;(repeat' (first|refine Y1 ?_|(refine Wb ?_;intro b)|(refine Wq ?_;intro q)|refine Wc (G1 ..) ?_|refine Wc (G2 ..) ?_|(refine Ws ?_ ?_<;>intro h)|refine Wz ?_|fail));refine Ee ((j+1,o++(e1++e2))) ?_ ?_
  ·exact⟨hlt,by rw[hn,ho];simp only[fu],by simp only[ae];omega⟩
  ·dsimp only;omega
 ·obtain rfl:j=ps.length:=Z8
  rw[List.take_length] at ho;rw[←ho];clear ho;refine aF ?_;exact Ea (x:=⟨rfl,rfl⟩)
end cO
namespace dir
open uU bld
def IA (p:bH):List UInt8:=ky p.1.length::(p.1++[ky p.2.toNat])
def gG:List bH→List UInt8
 |[]=>[]
 |p::l=>IA p++gG l
theorem aGF (a b:List bH):gG (a++b)=gG a++gG b:=by
 induction a with
 |nil=>rfl
 |cons p a ih=>show IA p++gG (a++b)=_;rw[ih];show _=(IA p++gG a)++gG b;rw[fu]
theorem aGG (p:bH):(IA p).length=p.1.length+2:=by simp [IA]
theorem ajW {l:List bH} (h: ∀ p∈l,p.1.length≤12):(gG l).length≤14*l.length:=by
 induction l with
 |nil=>simp [gG]
 |cons p l ih=>
  have h1:=ih fun q hq=>h q (a8 _ hq)
  have h2:=h p bu;show (IA p++gG l).length≤_;rw[ae,aGG,dv];omega
def wrD (l:List bH):List UInt8:=if bZ l=0 then gG l else []
def UX:Nat→List UInt8→Option (List bH)
 |_,[]=>some []
 |0,_::_=>none
 |f+1,n::r=>if r.length<n.toNat+1 then none else (UX f (r.drop (n.toNat+1))).map fun l=>(r.take n.toNat,((r.getD n.toNat 0).toNat:Int))::l
theorem NP: ∀ {f g:Nat} {s:List UInt8},s.length≤f→s.length≤g→UX f s=UX g s
 |f,g,[],_,_=>by cases f<;>cases g<;>rfl
 |0,_,_::_,h,_=>by simp at h
 |_+1,0,_::_,_,h=>by simp at h
 |f+1,g+1,n::r,h1,h2=>by
  rw[dv] at h1 h2;unfold UX;split
  ·rfl
  ·rw[NP (f:=f) (g:=g) Zo Zo]
def parse (s:List UInt8):Option (List bH):=UX s.length s
theorem axS:parse []=some []:=rfl
theorem DF {r:List UInt8} {n:UInt8} (h:r[0]? =some n):parse r=if r.length<n.toNat+2 then none else (parse (r.drop (n.toNat+2))).map fun l=>((r.drop 1).take n.toNat,((r.getD (1+n.toNat) 0).toNat:Int))::l:=by
 match r,h with
 |m::r,h=>
  cases h;unfold parse;rw[dv];show (if r.length<n.toNat+1 then none else _)=_;by_cases h1:r.length<n.toNat+1
  ·rw[Jg h1,Jg Z8]
  ·rw[Jf h1,Jf Z8];have e:(n::r).drop (n.toNat+2)=r.drop (n.toNat+1):=rfl;rw[e,NP (f:=r.length) (g:=(r.drop (n.toNat+1)).length) Zo (df _)];have e2:(n::r).getD (1+n.toNat) 0=r.getD n.toNat 0:=by rw[aao];rfl
   rw[e2];rfl
theorem axT {p:bH} {r:List UInt8} (h1:p.1.length≤12) (h2:0≤p.2) (h3:p.2<48):parse (IA p++r)=(parse r).map fun l=>p::l:=by
 have hn:(ky p.1.length).toNat=p.1.length:=by rw[aeu];omega
 have hi:((ky p.2.toNat).toNat:Int)=p.2:=by rw[aeu];omega
 have hs:IA p++r=ky p.1.length::(p.1++(ky p.2.toNat::r)):=by simp [IA]
 rw[hs,DF (n:=ky p.1.length) rfl,hn,Jf Ja];have e1:(ky p.1.length::(p.1++(ky p.2.toNat::r))).drop (p.1.length+2)=r:=by
  show (p.1++(ky p.2.toNat::r)).drop (p.1.length+1)=r;rw[List.drop_append];simp
 have e2:((ky p.1.length::(p.1++(ky p.2.toNat::r))).drop 1).take p.1.length=p.1:=by
  show (p.1++(ky p.2.toNat::r)).take p.1.length=p.1;exact List.take_left' rfl
 have e3:(ky p.1.length::(p.1++(ky p.2.toNat::r))).getD (1+p.1.length) 0=ky p.2.toNat:=by
  rw[aao];show (p.1++(ky p.2.toNat::r)).getD p.1.length 0=_;simp [my]
 rw[e1,e2,e3,hi]
theorem UY: ∀ {l:List bH},(∀ p∈l,nU p=0)→parse (gG l)=some l
 |[],_=>rfl
 |p::l,h=>by
  obtain⟨h1,h2,h3⟩:=cQ (h p bu);show parse (IA p++gG l)=_;rw[axT h1.2.2.2.1 h2 h3,UY fun q hq=>h q (a8 _ hq)];rfl
theorem aoJ: ∀ (f:Nat) {s:List UInt8} {l:List bH},s.length≤f→parse s=some l→gG l=s:=by
 intro f;induction f with
 |zero=>
  intro s l hf h;have:s=[]:=List.eq_nil_of_length_eq_zero Z8;subst this;cases h;rfl
 |succ f ih=>
  intro s l hf h
  match s with
  |[]=>cases h;rfl
  |n::r=>
   rw[DF (n:=n) rfl] at h;split at h
   ·cases h
   ·rename_i hl;rw[dv] at hl hf;obtain⟨l',zy,rfl⟩:=Option.map_eq_some_iff.1 h;have e1:(n::r).drop (n.toNat+2)=r.drop (n.toNat+1):=rfl;have e2:(n::r).getD (1+n.toNat) 0=r.getD n.toNat 0:=by rw[aao];rfl
    rw[e1] at zy;have h1:=ih Zo zy;show IA _++gG l'=_;rw[h1,e2];show ky (r.take n.toNat).length::((r.take n.toNat)++[ky ((r.getD n.toNat 0).toNat:Int).toNat])++_=_;rw[ar,Nat.min_eq_left Z8,Int.toNat_natCast,aev,aev];have hlt:n.toNat<r.length:=Z8
    have e3:r.getD n.toNat 0=r[n.toNat]:=by rw[my,ak hlt];rfl
    rw[e3];simp
theorem axU {s:List UInt8} {l:List bH} (h:parse s=some l):gG l=s:=aoJ s.length (df _) h
def iY (s:List UInt8):Option (List bH):=(parse s).bind fun l=>if bZ l=0 then some l else none
theorem lJ {l:List bH} (h:bZ l=0):iY (wrD l)=some l:=by
 unfold iY wrD;rw[Jg h,UY ((eI l).1 h).2.1];show (if bZ l=0 then some l else none)=_;rw[Jg h]
theorem vM {s:List UInt8} {l:List bH} (h:iY s=some l):bZ l=0∧wrD l=s:=by
 unfold iY at h;obtain⟨l',h1,h2⟩:=Option.bind_eq_some_iff.1 h;split at h2
 ·cases h2;exact⟨‹_›,by unfold wrD;rw[Jg ‹_›];exact axU h1⟩
 ·cases h2
attribute [local irreducible] box own sl bL aH bJ Qt cN cM dG dL eQ
theorem kJ (q:Option Addr) (c:Nat) (l:List bH) (hn:l.length≤1000000000000000000) (hs: ∀ p∈l,p.1.length≤9223372036854775807):
  Ct Tryz.prog 214 [.slice q l.length c] [sl 2 (.slice q l.length c) (l.map fE)] fun v H'=>v= .tuple #[.string (str (wrD l)), .int .i64 (bZ l)]∧H'=[]:=by
 have C0:=bP q c l hn hs;by_cases h0:bZ l=0
 ·have hw:wrD l=gG l:=by unfold wrD;rw[Jg h0]
  rw[h0] at C0 ⊢;rw[hw];obtain⟨g1,g2,_⟩:=(eI l).1 h0;clear hw h0;(refine Ye Tryz.func214 Tryz.ntmps214 ?_;intro Fr);(refine JJ ?_;intro b);refine aO (aS _ 5 1) ?_;(refine aC (σ:=Nat×Value×Option Addr×Nat×List UInt8) (fun s=>s.1≤l.length∧s.2.2.2.2=gG (l.take s.1)∧(s.2.1= .pointer none∨s.2.1=me b)∧(s.1=0→s.2.2.1=none∧s.2.2.2.1=0)) (fun s=>[(15, .int .i64 (s.1:Int))]) (fun s=>[own (.slice s.2.2.1 s.2.2.2.2.length s.2.2.2.1) 5 1 s.2.2.2.2.length (flat fY s.2.2.2.2),box b [s.2.1, .slice s.2.2.1 s.2.2.2.2.length s.2.2.2.1] 313]) _ (fun s=>l.length-s.1) ((0, .pointer none,none,0,[])) (by exact⟨fe _,rfl, .inl rfl,fun _=>⟨rfl,rfl⟩⟩) Ze Zb (fun⟨k,pv,qx,cx,bs⟩ ⟨hk,hb,hp,h0⟩=> ?_);refine Da ?_);dsimp only at hk hb hp h0;rcases ig k l.length with hlt|zv
  ·obtain⟨p,zy⟩: ∃ p,l[k]? =some p:=⟨_,ak hlt⟩;obtain⟨f1,f2,f3⟩:=cQ (g2 p (jg zy));have f4:=f1.2.2.2.1;have hst:gG (l.take (k+1))=bs++[ky p.1.length]++p.1++[ky p.2.toNat]:=by
    rw[take_one zy,aGF, ←hb];show bs++(IA p++[])=_;simp [IA]
   have hbl:bs.length≤1000:=by
    have:=ajW (l:=l.take k) fun q hq=>(cQ (g2 q (List.mem_of_mem_take hq))).1.2.2.2.1
    rw[←hb,ar] at this;omega
   obtain⟨x,hx⟩: ∃ x,x=ky p.1.length:=⟨_,rfl⟩;obtain⟨y,hy⟩: ∃ y,y=ky p.2.toNat:=⟨_,rfl⟩;rw[←hx, ←hy] at hst;have zx:(x.toNat:Int)=(p.1.length:Int):=by rw[hx,aeu];omega
   have zw:(y.toNat:Int)=p.2:=by rw[hy,aeu];omega
   have W1:=UT b pv hp qx cx bs x Z8;rw[zx] at W1;have W2:=fun q c=>DE b (me b) (.inr rfl) q c (bs++[x]) p.1 Zq
   have W3:=fun q c=>UT b (me b) (.inr rfl) q c (bs++[x]++p.1) y Zq
   rw[zw] at W3;clear hx hy zx zw f1;(refine bF ?_;intro b);(refine Ca (W1) ?_;rintro _ _ ⟨_,⟨q1,c1,rfl,rfl⟩,rfl⟩;refine Da ?_);refine bM ?_;(refine Ca (W2 _ _) ?_;rintro _ _ ⟨_,⟨q2,c2,rfl,rfl⟩,rfl⟩;refine Da ?_);refine iC ?_;(refine Ca (W3 _ _) ?_;rintro _ _ ⟨_,⟨q3,c3,rfl,rfl⟩,rfl⟩;refine Da ?_);refine iC ?_;refine Ee ((k+1,_,q3,c3,bs++[x]++p.1++[y])) ?_ ?_
   ·exact⟨hlt,hst.symm, .inr rfl,fun h=>absurd h Z8⟩
   ·show l.length-(k+1)<l.length-k;omega
  ·rw [List.take_of_length_le zv] at hb;have S0 := UU b cx qx pv bs fun h => h0 (by
    rw[hb] at h
    match l,h with
    |[],_=>simpa using hk
    | p :: l, h => simp [gG, IA] at h)
   rw[←hb];clear hb;(repeat' (first|refine Y3 ?_|refine Wc (S0 ..) ?_|fail));exact Ea (x:=⟨rfl,rfl⟩)
 ·have hw:wrD l=[]:=by unfold wrD;rw[Jf h0]
  rw[hw];generalize bZ l=e at*;(refine Ye Tryz.func214 Tryz.ntmps214 ?_;intro Fr);refine EU ?_;exact Ea (x:=⟨rfl,rfl⟩)
def aMR (s:List UInt8) (v:Value) (H':List Ent):Prop:=
 (∃ zs q c,iY s=some zs∧v= .tuple #[.slice q zs.length c, .int .i64 0]∧H'=[own (.slice q zs.length c) 204 2 zs.length (flat fE zs)])∨
 (iY s=none∧v= .tuple #[.slice none 0 0, .int .i64 4]∧H'=[])
theorem rI (s:List UInt8) (hs:s.length≤1000000000000):
  Ct Tryz.prog 215 [.string (str s)] [] (aMR s):=by
 have ofE:=BO;(refine Ye Tryz.func215 Tryz.ntmps215 ?_;intro Fr);refine bM ?_;refine aO (aS _ 204 2) ?_;(refine aC (σ:=List UInt8×List bH×Option Addr×Nat) (fun x=>x.1.length+2*x.2.1.length≤s.length∧parse s=(parse x.1).map (x.2.1++ ·)∧ ∀ p∈x.2.1,p.1.length≤255) (fun x=>[(0, .string (str x.1)),(4, .slice x.2.2.1 x.2.1.length x.2.2.2)]) (fun x=>[own (.slice x.2.2.1 x.2.1.length x.2.2.2) 204 2 x.2.1.length (flat fE x.2.1)]) _ (fun x=>x.1.length) ((s,[],none,0)) (by exact⟨Ja,by cases parse s<;>rfl,Ja⟩) Ze Zb (fun⟨r,zs,qx,cx⟩ ⟨hl,hp,hz⟩=> ?_);refine Da ?_);dsimp only at hl hp hz;by_cases hr:r=[]
 ·have e1:(r==[])=true:=by rw[hr];rfl
  have zw:parse s=some zs:=by rw[hp,hr,axS];simp
  have C0:=fun q c=>bP q c zs Z8 fun p h=>Nat.le_trans (hz p h) Z8
  by_cases hc:bZ zs=0
  ·rw[hc] at C0;have hd:iY s=some zs:=by unfold iY;rw[zw];show (if _ then _ else _)=_;rw[Jg hc]
   refine EU ?_;exact Ea (x:= .inl ⟨zs,_,_,hd,rfl,rfl⟩)
  ·have hd:iY s=none:=by unfold iY;rw[zw];show (if _ then _ else _)=_;rw[Jf hc]
   generalize bZ zs=e at*;refine EU ?_;exact Ea (x:= .inr ⟨hd,rfl,rfl⟩)
 ·have e1:(r==[])=false:=by simpa using hr
  obtain⟨n,hn⟩: ∃ n,r[0]? =some n:=⟨_,ak (List.length_pos_iff.2 hr)⟩;have hst:=DF hn;have hn8:=UInt8.toNat_lt n;by_cases h2:r.length<n.toNat+2
  ·rw[Jg h2] at hst;have hd:iY s=none:=by unfold iY;rw[hp,hst];rfl
   refine bM ?_;exact Ea (x:= .inr ⟨hd,rfl,rfl⟩)
  ·rw[Jf h2] at hst;obtain⟨y,hy⟩: ∃ y,r[1+n.toNat]? =some y:=⟨_,ak Z8⟩;have zv:r.getD (1+n.toNat) 0=y:=by rw[my,hy];rfl
   rw[zv] at hst;obtain⟨nm,zu⟩: ∃ nm,(r.drop 1).take (1+n.toNat-1)=nm:=⟨_,rfl⟩;have zy:(r.drop 1).take n.toNat=nm:=by rw[←zu,Nat.add_sub_cancel_left]
   rw[zy] at hst;have hc1:(1:Int)+(n.toNat:Int)=((1+n.toNat:Nat):Int):=Z8
   have hc2:(n.toNat:Int)+2=((n.toNat+2:Nat):Int):=Z8
   have zx:nm.length≤255:=by rw[←zy,ar];omega
   clear zy zv;refine kB ?_;(refine aD (Hq:=[]) [] [] rfl Jd Za ?_);refine jV ?_;(refine aB 11 ?_;refine Oa (l:=by exact aT rfl rfl rfl Zp rfl rfl Z9 rfl) (k:= ?_);rintro _ _ ⟨q3,rfl,rfl⟩;refine Te ?_;(try refine Da ?_));(refine aB 12 ?_;refine Oa (l:=by exact (by first|exact Ma (fE) [(nm,(y.toNat:Int))] rfl|exact Mb (fE) [(nm,(y.toNat:Int))] rfl)) (k:= ?_);rintro _ _ ⟨q2,c2,rfl,rfl⟩;refine Te ?_;(try refine Da ?_));refine sO ?_;refine Ee ((r.drop (n.toNat+2),zs++[(nm,(y.toNat:Int))],q2,c2)) ?_ ?_
   ·refine⟨by dsimp only;rw[bq,ae,List.length_singleton];omega, ?_,fun p h=> ?_⟩
    ·dsimp only;rw[hp,hst];cases parse (r.drop (n.toNat+2)) with
     |none=>rfl
     |some l=>simp
    ·rcases List.mem_append.1 h with h|h
     ·exact hz p h
     ·rw[List.mem_singleton.1 h];exact zx
   ·show (r.drop (n.toNat+2)).length<r.length;rw[bq];omega
end dir
