/- FsOps, packed. -/
import Derived.Test.YtbjalbcdbgcgdaaGreatOQ
import Derived.Test.YtbjalbcdbgcgdaaGreatO00
import Derived.Test.YtbjalbcdbgcgdaaGreatO03
import Derived.Test.YtbjalbcdbgcgdaaGreatO04
import Derived.Test.YtbjalbcdbgcgdaaGreatO01
open Go.Proofs.Tryz renaming prog->lk
open List renaming append_assoc->fu,append_nil->ke,cons_append->dw,drop_eq_getElem_cons->bh,drop_eq_nil_of_le->adh,drop_left->aar,getD_eq_getElem?_getD->my,getElem?_eq_getElem->ak,getElem?_eq_some_iff->aj,length_cons->dv,length_drop->bq,length_take->ar,take_append_drop->gl,take_left->adi,take_length->mz
open Nat renaming lt_or_ge->ig,zero_le->fe
open Int renaming eq_ofNat_of_zero_le->adg,toNat_natCast->dc
open Option renaming map_some->ej
open UInt8 renaming ofNat->ky
open Decidable renaming not_not->aab
open Go.IntKind renaming bits->jm,max->jv,min->ju,signed->iz
open Go.Lit renaming int->kg,wf->k9
set_option linter.unusedVariables false
set_option maxRecDepth 100000
set_option maxHeartbeats 8000000
namespace Go.Proofs.YtbjalbcdbgcgdaaGreat
open Go.RowKit bO sl
namespace lH
open fix sum
attribute [local irreducible] box own sl bL aH bJ Qt cN cM dG dL eQ
theorem nN (i:Int) (w:Nat) (h1:1≤w∧w≤8) (hi:0≤i∧i<18446744073709551616):Ct lk 194 [.int .u64 i, .int .i64 (w:Int)] [] fun v H'=>v= .string (str (dN i.toNat w))∧H'=[]:=by
 obtain⟨n,rfl⟩: ∃ n:Nat,i=(n:Int):=⟨i.toNat,Z8⟩;exact bK fun W _=>acP n w h1.1 h1.2 Z8 W
theorem EZ (l:List UInt8) (h:l.length≤8):Ct lk 227 [.string (str l)] [] fun v H'=>v= .tuple #[.int .u64 (cF l:Int), .int .i64 0]∧H'=[]:=
 bK fun W _=>(auH (str l) (by rw[cZ];exact h) W).mono fun e w' ⟨h1,h2⟩=>⟨by rw[h1],by rw[h2];exact Below.refl _ _⟩
def JM (l:List UInt8):Int:=((QX 0 l).toNat:Int)
theorem aqN (l:List UInt8):0≤JM l∧JM l≤4294967295:=by
 have:=(QX 0 l).isLt;unfold JM;omega
theorem aBY (l:List UInt8) (h:l.length≤1000000000000000):Ct lk 247 [.string (str l)] [] fun v H'=>v= .int .u32 (JM l)∧H'=[]:=
 bK fun W _=>aKI (str l) (by rw[cZ];exact h) W
def mY (kind serial:Int) (n:Nat):Int:=if kind≠1∧kind≠2∨serial<0∨2147483647<serial then 1 else if 1000<(n:Int) then 2 else 0
theorem zB (kind serial:Int) (b:List UInt8):Ct lk 246 [.int .i64 kind, .int .i64 serial, .string (str b)] [] fun v H'=>v= .int .i64 (mY kind serial b.length)∧H'=[]:=by
 (refine Ye Tryz.func246 Tryz.ntmps246 ?_;intro Fr);(repeat' (first|refine Y1 ?_|(refine Wb ?_;intro b)|(refine Wq ?_;intro q)|(refine Ws ?_ ?_<;>intro h)|refine Wz ?_|fail));all_goals exact qE rfl JD _ ⟨by unfold mY;(repeat' split)<;>first|rfl|(exfalso;omega),rfl⟩ MN
def four (c:Int):List UInt8:=[c%256,c/256%256,c/65536%256,c/16777216].map fun z=>ky z.toNat
def bW (kind serial:Int) (b:List UInt8):List UInt8:=dN kind.toNat 1++dN serial.toNat 4++dN b.length 2++b
def dY (kind serial:Int) (b:List UInt8):List UInt8:=bW kind serial b++four (JM (bW kind serial b))
def MU (kind serial:Int) (b:List UInt8):List UInt8:=if mY kind serial b.length=0 then dY kind serial b else []
theorem zC (kind serial:Int) (b:List UInt8):(bW kind serial b).length=7+b.length:=by
 simp [bW,cJ];omega
theorem agK (kind serial:Int) (b:List UInt8):Ct lk 193 [.int .i64 kind, .int .i64 serial, .string (str b)] [] fun v H'=>v= .tuple #[.string (str (MU kind serial b)), .int .i64 (mY kind serial b.length)]∧H'=[]:=by
 have FT:=zB kind serial b;by_cases h0:mY kind serial b.length=0
 ·have hS:MU kind serial b=dY kind serial b:=by unfold MU;rw[Jg h0]
  rw[h0] at FT ⊢;have hk:0≤kind∧kind≤2∧0≤serial∧serial≤2147483647∧b.length≤1000:=by
   unfold mY at h0;split at h0
   ·cases h0
   ·split at h0
    ·cases h0
    ·omega
  have F1:=nN kind 1 Z9 Z8;have F2:=nN serial 4 Z9 Z8;have F3:=nN (b.length:Int) 2 Z9 Z8;have l1:=cJ kind.toNat 1;have l2:=cJ serial.toNat 4;have l3:=cJ (b.length:Int).toNat 2;have hB:dN kind.toNat 1++dN serial.toNat 4++dN (b.length:Int).toNat 2++b=bW kind serial b:=by rw[dc];rfl
  have zy:=zC kind serial b;have SM:=aBY (bW kind serial b) Z8;have zx:=aqN (bW kind serial b);have hE:bW kind serial b++four (JM (bW kind serial b))=dY kind serial b:=rfl;rw[hS, ←hE];rw[←hB] at SM zx ⊢;generalize dN kind.toNat 1=f1 at*;generalize dN serial.toNat 4=f2 at*;generalize dN (b.length:Int).toNat 2=f3 at*;clear hB zy hE;(refine Ye Tryz.func193 Tryz.ntmps193 ?_;intro Fr);(repeat' (first|refine Y1 ?_|(refine Wb ?_;intro b)|(refine Wq ?_;intro q)|refine Wc (FT ..) ?_|refine Wc (F1 ..) ?_|refine Wc (F2 ..) ?_|refine Wc (F3 ..) ?_|refine Wc (SM ..) ?_|(refine Ws ?_ ?_<;>intro h)|refine Wz ?_|fail));exact Ea (x:=⟨rfl,rfl⟩)
 ·have hS:MU kind serial b=[]:=by unfold MU;rw[Jf h0]
  rw[hS];(refine Ye Tryz.func193 Tryz.ntmps193 ?_;intro Fr);(repeat' (first|refine Y1 ?_|(refine Wb ?_;intro b)|(refine Wq ?_;intro q)|refine Wc (FT ..) ?_|(refine Ws ?_ ?_<;>intro h)|refine Wz ?_|fail));exact Ea (x:=⟨rfl,rfl⟩)
def dI (l:List UInt8) (i j:Nat):List UInt8:=(l.drop i).take (j-i)
def lT (l:List UInt8):Int:=
 if l.length<11 then 3 else if 1011<l.length then 2
 else if l.drop (l.length-4)≠four (JM (l.take (l.length-4))) then 5
 else if (cF (dI l 5 7):Int)≠((l.length-4:Nat):Int)-7∨mY ((l.getD 0 0).toNat:Int) (cF (dI l 1 5):Int) (dI l 7 (l.length-4)).length≠0 then 4 else 0
def oC (l:List UInt8):Int:=((l.getD 0 0).toNat:Int)
def oD (l:List UInt8):Int:=(cF (dI l 1 5):Int)
def iQ (l:List UInt8):List UInt8:=dI l 7 (l.length-4)
def oE (l:List UInt8):Value:=
 if lT l=0 then .tuple #[.int .i64 (oC l), .int .i64 (oD l), .string (str (iQ l)), .int .i64 0]
 else .tuple #[.int .i64 0, .int .i64 0, .string (str []), .int .i64 (lT l)]
theorem QY (l:List UInt8) (hl:l.length≤1000000000000000):Ct lk 195 [.string (str l)] [] fun v H'=>v=oE l∧H'=[]:=by
 by_cases hs:l.length<11
 ·have hE:lT l=3:=by unfold lT;rw[Jg hs]
  have hV:oE l= .tuple #[.int .i64 0, .int .i64 0, .string (str []), .int .i64 3]:=by unfold oE;rw[hE];rfl
  rw[hV];(refine Ye Tryz.func195 Tryz.ntmps195 ?_;intro Fr);refine aF ?_;exact Ea (x:=⟨rfl,rfl⟩)
 ·by_cases hb:1011<l.length
  ·have hE:lT l=2:=by unfold lT;rw[Jf hs,Jg hb]
   have hV:oE l= .tuple #[.int .i64 0, .int .i64 0, .string (str []), .int .i64 2]:=by unfold oE;rw[hE];rfl
   rw[hV];(refine Ye Tryz.func195 Tryz.ntmps195 ?_;intro Fr);refine aF ?_;exact Ea (x:=⟨rfl,rfl⟩)
  ·obtain⟨m,hm⟩: ∃ m,l.length=m+4:=⟨l.length-4,Z8⟩;have zy:l.length-4=m:=Z8
   have hmI:(l.length:Int)-4=(m:Int):=Z8
   have SM:=aBY (l.take m) ZH;have hsb:=aqN (l.take m);by_cases hd:l.drop m=four (JM (l.take m))
   ·have zx:(l.drop m==four (JM (l.take m)))=true:=by rw[hd];simp
    obtain⟨b0,zw⟩: ∃ b0,l[0]? =some b0:=⟨_,ak Z8⟩;have hg:l.getD 0 0=b0:=by rw[my,zw];rfl
    have U1:=EZ (dI l 1 5) ZE;have U2:=EZ (dI l 5 7) ZE;have u1:cF (dI l 1 5)<4294967296:=by
     have:=qT (dI l 1 5);have h2:(dI l 1 5).length=4:=by unfold dI;rw[ar,bq];omega
     rwa [h2] at this
    have u2:cF (dI l 5 7)<65536:=by
     have:=qT (dI l 5 7);have h2:(dI l 5 7).length=2:=by unfold dI;rw[ar,bq];omega
     rwa [h2] at this
    have FT:=zB (b0.toNat:Int) (cF (dI l 1 5):Int) (dI l 7 m);have hbt:=b0.toNat_lt;have hN:oD l=(cF (dI l 1 5):Int):=rfl;have hK:oC l=(b0.toNat:Int):=by unfold oC;rw[hg]
    have hB:iQ l=dI l 7 m:=by unfold iQ;rw[zy]
    have hE:lT l=if (cF (dI l 5 7):Int)≠(m:Int)-7∨mY (b0.toNat:Int) (cF (dI l 1 5):Int) (dI l 7 m).length≠0 then 4 else 0:=by
     unfold lT;rw[Jf hs,Jf hb,zy,Jf (by rw[hd];simp),hg]
    generalize cF (dI l 1 5)=n1 at*;generalize cF (dI l 5 7)=n2 at*;by_cases h7:(n2:Int)=(m:Int)-7
    ·by_cases h8:mY (b0.toNat:Int) (n1:Int) (dI l 7 m).length=0
     ·have hV:oE l= .tuple #[.int .i64 (b0.toNat:Int), .int .i64 (n1:Int), .string (str (dI l 7 m)), .int .i64 0]:=by
       rw[Jf (by rw[h8,h7];simp)] at hE;unfold oE;rw[hE,Jg rfl,hK,hN,hB]
      rw[hV];rw[h8] at FT;clear hV hE hK hN hB hg h8 zy;(refine Ye Tryz.func195 Tryz.ntmps195 ?_;intro Fr);(repeat' (first|refine Y1 ?_|(refine Wb ?_;intro b)|(refine Wq ?_;intro q)|refine Wc (SM ..) ?_|refine Wc (U1 ..) ?_|refine Wc (U2 ..) ?_|refine Wc (FT ..) ?_|(refine Ws ?_ ?_<;>intro h)|refine Wz ?_|fail));exact Ea (x:=⟨rfl,rfl⟩)
     ·have hV:oE l= .tuple #[.int .i64 0, .int .i64 0, .string (str []), .int .i64 4]:=by
       rw[Jg (.inr h8)] at hE;unfold oE;rw[hE];rfl
      rw[hV];clear hV hE hK hN hB hg zy;generalize mY (b0.toNat:Int) (n1:Int) (dI l 7 m).length=z at*;(refine Ye Tryz.func195 Tryz.ntmps195 ?_;intro Fr);(repeat' (first|refine Y1 ?_|(refine Wb ?_;intro b)|(refine Wq ?_;intro q)|refine Wc (SM ..) ?_|refine Wc (U1 ..) ?_|refine Wc (U2 ..) ?_|refine Wc (FT ..) ?_|(refine Ws ?_ ?_<;>intro h)|refine Wz ?_|fail));exact Ea (x:=⟨rfl,rfl⟩)
    ·have hV:oE l= .tuple #[.int .i64 0, .int .i64 0, .string (str []), .int .i64 4]:=by
      rw[Jg (.inl h7)] at hE;unfold oE;rw[hE];rfl
     rw[hV];clear hV hE hK hN hB hg zy FT;(refine Ye Tryz.func195 Tryz.ntmps195 ?_;intro Fr);(repeat' (first|refine Y1 ?_|(refine Wb ?_;intro b)|(refine Wq ?_;intro q)|refine Wc (SM ..) ?_|refine Wc (U1 ..) ?_|refine Wc (U2 ..) ?_|(refine Ws ?_ ?_<;>intro h)|refine Wz ?_|fail));exact Ea (x:=⟨rfl,rfl⟩)
   ·have zx:(l.drop m==four (JM (l.take m)))=false:=by simpa using hd
    have hE:lT l=5:=by unfold lT;rw[Jf hs,Jf hb,Jg (by rw[zy];exact hd)]
    have hV:oE l= .tuple #[.int .i64 0, .int .i64 0, .string (str []), .int .i64 5]:=by unfold oE;rw[hE];rfl
    rw[hV];clear hE hV zy;(refine Ye Tryz.func195 Tryz.ntmps195 ?_;intro Fr);(repeat' (first|refine Y1 ?_|(refine Wb ?_;intro b)|(refine Wq ?_;intro q)|refine Wc (SM ..) ?_|(refine Ws ?_ ?_<;>intro h)|refine Wz ?_|fail));exact Ea (x:=⟨rfl,rfl⟩)
end lH
namespace lH
open fix XA sum
theorem BQ {k n:Int} {m:Nat} (h:mY k n m=0):(k=1∨k=2)∧0≤n∧n≤2147483647∧m≤1000:=by
 unfold mY at h;split at h
 ·cases h
 ·split at h
  ·cases h
  ·omega
theorem RC {k n:Int} {m:Nat} (h:(k=1∨k=2)∧0≤n∧n≤2147483647∧m≤1000):mY k n m=0:=by
 unfold mY;rw[Jf Z8,Jf Z8]
theorem aCA (c:Int):(four c).length=4:=rfl
theorem JN (k n:Int) (b:List UInt8):(dY k n b).length=11+b.length:=by
 simp [dY,zC,aCA];omega
theorem FB (a b c:List UInt8) (i j:Nat) (hi:a.length=i) (hj:i+b.length=j):dI (a++(b++c)) i j=b:=by
 unfold dI;rw[←hi,aar,show j-a.length=b.length from by omega,adi]
theorem auN (k n:Int) (b:List UInt8) (h:mY k n b.length=0):lT (dY k n b)=0∧oC (dY k n b)=k∧oD (dY k n b)=n∧iQ (dY k n b)=b:=by
 obtain⟨hk,h1,h2,h3⟩:=BQ h;have hl:=JN k n b;have zy:(dY k n b).length-4=7+b.length:=Z8
 have zx:k.toNat<256:=Z8
 have f1:=sQ k.toNat zx;have e:dY k n b=[ky k.toNat]++(dN n.toNat 4++(dN b.length 2++(b++four (JM (bW k n b))))):=by
  unfold dY;rw[bW,f1];simp
 have c1:dI (dY k n b) 1 5=dN n.toNat 4:=by rw[e];exact FB _ _ _ _ _ rfl (by rw[cJ])
 have c2:dI (dY k n b) 5 7=dN b.length 2:=by
  rw[e, ←fu];exact FB _ _ _ _ _ (by simp [cJ]) (by rw[cJ])
 have c3:dI (dY k n b) 7 (7+b.length)=b:=by
  rw[e, ←fu, ←fu];exact FB _ _ _ _ _ (by simp [cJ]) rfl
 have hK:oC (dY k n b)=k:=by
  unfold oC;rw[e];simp;omega
 have hN:oD (dY k n b)=n:=by
  unfold oD;rw[c1,zD];omega
 have hB:iQ (dY k n b)=b:=by
  unfold iQ;rw[zy,c3]
 have t1:(dY k n b).take (7+b.length)=bW k n b:=by
  unfold dY;rw[←zC k n b,adi]
 have t2:(dY k n b).drop (7+b.length)=four (JM (bW k n b)):=by
  unfold dY;rw[←zC k n b,aar]
 refine⟨?_,hK,hN,hB⟩;have zw:(((dY k n b).getD 0 0).toNat:Int)=k:=hK;have zv:(cF (dI (dY k n b) 1 5):Int)=n:=hN;have hu:cF (dN b.length 2)=b.length:=by rw[zD];omega
 unfold lT;rw[Jf Z8,Jf Z8,zy,t1,t2,Jf Ja,zw,zv,c2,c3,hu,Jf];intro hh;rcases hh with hh|hh
 ·omega
 ·exact hh h
theorem amA {l:List UInt8} (h:lT l=0):11≤l.length∧l.length≤1011∧l.drop (l.length-4)=four (JM (l.take (l.length-4)))∧(cF (dI l 5 7):Int)=((l.length-4:Nat):Int)-7∧mY (oC l) (oD l) (iQ l).length=0:=by
 unfold lT at h;split at h
 ·cases h
 ·split at h
  ·cases h
  ·split at h
   ·cases h
   ·split at h
    ·cases h
    ·rename_i h1 h2 h3 h4;simp only[not_or,aab,ne_eq] at h3 h4;exact⟨Z8,Z8,h3,h4.1,h4.2⟩
theorem JO (l:List UInt8) (i j:Nat) (h:i≤j):l.drop i=dI l i j++l.drop j:=by
 unfold dI
 conv=>lhs;rw[←gl (j-i) (l.drop i)]
 rw[List.drop_drop];congr 2;omega
theorem auO (l:List UInt8) (h:lT l=0):mY (oC l) (oD l) (iQ l).length=0∧dY (oC l) (oD l) (iQ l)=l:=by
 obtain⟨h1,h2,h3,h4,h5⟩:=amA h;refine⟨h5, ?_⟩;obtain⟨b0,zx⟩: ∃ b0,l[0]? =some b0:=⟨_,ak Z8⟩;have hK:oC l=(b0.toNat:Int):=by unfold oC;rw[my,zx];rfl
 have l1:(dI l 1 5).length=4:=by unfold dI;rw[ar,bq];omega
 have l2:(dI l 5 7).length=2:=by unfold dI;rw[ar,bq];omega
 have l3:(iQ l).length=l.length-11:=by unfold iQ dI;rw[ar,bq];omega
 have f1:dN (oC l).toNat 1=[b0]:=by rw[hK,dc,agM]
 have f2:dN (oD l).toNat 4=dI l 1 5:=by
  unfold oD;rw[dc, ←l1,YV]
 have hlen:cF (dI l 5 7)=l.length-11:=Z8
 have f3:dN (iQ l).length 2=dI l 5 7:=by
  rw[l3, ←hlen, ←l2,YV]
 have zy:bW (oC l) (oD l) (iQ l)=l.take (l.length-4):=by
  unfold bW;rw[f1,f2,f3];have e0:l=[b0]++l.drop 1:=by
   cases l with
   |nil=>simp at zx
   |cons a t=>simp at zx;subst zx;rfl
  have e1:l=([b0]++dI l 1 5++dI l 5 7++iQ l)++l.drop (l.length-4):=by
   conv=>lhs;rw[e0,JO l 1 5 Z9,JO l 5 7 Z9,JO l 7 (l.length-4) Z8]
   simp [iQ]
  have e2:([b0]++dI l 1 5++dI l 5 7++iQ l).length=l.length-4:=by simp [l1,l2,l3];omega
  rw[←e2];have h9:=congrArg (List.take ([b0]++dI l 1 5++dI l 5 7++iQ l).length) e1;rw[adi] at h9;exact h9.symm
 unfold dY;rw[zy, ←h3,gl]
theorem aCB {l:List UInt8} (h:lT l=0):oE l= .tuple #[.int .i64 (oC l), .int .i64 (oD l), .string (str (iQ l)), .int .i64 0]:=by unfold oE;rw[Jg h]
theorem aCC {l:List UInt8} (h:lT l≠0):oE l= .tuple #[.int .i64 0, .int .i64 0, .string (str []), .int .i64 (lT l)]:=by unfold oE;rw[Jf h]
theorem agN {k n:Int} {b:List UInt8} (h:mY k n b.length=0):MU k n b=dY k n b:=by unfold MU;rw[Jg h]
end lH
namespace use
open lH bA dZ
abbrev Cells:=List ByteArray
abbrev cH:=List (Int×ByteArray)
theorem aQO {cs:Cells} {ps:cH} (h:bA.Good cs ps) (k:Int):(rJ cs ps k).size≤1024:=by
 unfold rJ;cases hf:ps.reverse.find? (fun p=>p.1==k) with
 |some p=>
  have hm:=List.mem_of_find?_eq_some hf;have:=h.agT p (List.mem_reverse.1 hm);exact (xL.1 this).2.2
 |none=>
  show (cs.getD k.toNat ⟨#[]⟩).size≤1024;rw[my];cases hg:cs[k.toNat]? with
  |some s=>exact h.cells s (List.mem_of_getElem? hg)
  |none=>exact fe _
def RI (cs:Cells) (ps:cH) (k:Nat):List UInt8:=(rJ cs ps k).data.toList
theorem aKM (cs:Cells) (ps:cH) (k:Nat):rJ cs ps k=str (RI cs ps k):=rfl
def oK (cs:Cells) (ps:cH) (k:Nat):Option (Int×List bU×Bool):=
 if lT (RI cs ps k)=0∧oC (RI cs ps k)=1 then (mE (iQ (RI cs ps k))).map fun zs=>(oD (RI cs ps k),zs,((iQ (RI cs ps k)).getD 0 0).toNat==1) else none
def RJ (cs:Cells) (ps:cH) (k:Nat) (v:Value) (H':List Ent):Prop:=
 (∃ n zs b q c,oK cs ps k=some (n,zs,b)∧v= .tuple #[.int .i64 n, .slice q zs.length c, .bool b, .bool true]∧H'=[own (.slice q zs.length c) 175 4 zs.length (flat BR zs)])∨
 (oK cs ps k=none∧ ∃ n,v= .tuple #[.int .i64 n, .slice none 0 0, .bool false, .bool false]∧H'=[])
instance {cs:Cells} {ps:cH} {k:Nat}:Xcl (RJ cs ps k):=by unfold RJ;infer_instance
theorem bY {P:Program} {f:FuncId} {args:List Value} {H:List Ent} {R R':Value→List Ent→Prop} (h:Ct P f args H R) (k: ∀ v H',R v H'→R' v H'):Ct P f args H R':=⟨fun Fr w hw=>(h.go Fr w hw).mono fun e w' ⟨v,H',h1,h2,h3⟩=>⟨v,H',h1,k v H' h2,h3⟩⟩
theorem auP {L:List UInt8} {zs:List bU} (hL:L.length≤1000000000000000) (h:mE L=some zs):Ct lk 196 [.string (str L)] [] fun v H'=> ∃ q c,v= .tuple #[.slice q zs.length c, .bool ((L.getD 0 0).toNat==1), .int .i64 0]∧H'=[own (.slice q zs.length c) 175 4 zs.length (flat BR zs)]:=
 bY (rI L hL) fun v H' h2=>by
  rcases h2 with⟨zs',q,c,e,h3,h4⟩|⟨e,_⟩
  ·rw[h] at e;cases e;exact⟨q,c,h3,h4⟩
  ·rw[h] at e;cases e
theorem JU {L:List UInt8} (hL:L.length≤1000000000000000) (h:mE L=none):Ct lk 196 [.string (str L)] [] fun v H'=>v= .tuple #[.slice none 0 0, .bool false, .int .i64 4]∧H'=[]:=
 bY (rI L hL) fun v H' h2=>by
  rcases h2 with⟨zs',q,c,e,_⟩|⟨_,h3⟩
  ·rw[h] at e;cases e
  ·exact h3
attribute [local irreducible] box own sl bL aH bJ Qt cN cM dG dL eQ
theorem RL (a w:Option Addr) (ca cw:Nat) (cs:Cells) (ps:cH) (k:Nat) (hk:k<cs.length) (hg:bA.Good cs ps):
  Ct lk 130 [.agg #[.slice a cs.length ca, .slice w ps.length cw], .int .i64 (k:Int)] [sl 1 (.slice a cs.length ca) (cs.map fS),sl 2 (.slice w ps.length cw) (ps.map fP)] (RJ cs ps k):=by
 have hw:=hg.wait;have N0:=aKL a w ca cw cs ps k hk Z8;have hb:=aQO hg (k:Int);rw[aKM] at N0 hb;rw[cZ] at hb;obtain⟨l,hl⟩: ∃ l,RI cs ps k=l:=⟨_,rfl⟩;rw[hl] at N0 hb;have O0:=QY l Z8;have hob:(iQ l).length≤1024:=by unfold iQ dI;rw[ar,bq];omega
 by_cases hE:lT l=0
 ·rw[aCB hE] at O0;by_cases hK:oC l=1
  ·cases hr:mE (iQ l) with
   |some zs=>
    have R0:=auP Z8 hr;have zy:oK cs ps k=some (oD l,zs,((iQ l).getD 0 0).toNat==1):=by unfold oK;rw[hl,Jg ⟨hE,hK⟩,hr];rfl
    rw[hK] at O0;unfold RJ;rw[zy];generalize (((iQ l).getD 0 0).toNat==1)=bb at*;generalize oD l=nn at*;generalize iQ l=bl at*;clear hE hK;(refine Ye Tryz.func130 Tryz.ntmps130 ?_;intro Fr);(refine JF ?_;intro b);(refine Ca (R0) ?_;rintro _ _ ⟨_,⟨q,c,rfl,rfl⟩,rfl⟩;refine Da ?_);refine bM ?_;exact Ea (x:= .inl ⟨_,_,_,q,c,rfl,rfl,rfl⟩)
   |none=>
    have R0:=JU Z8 hr;have zy:oK cs ps k=none:=by unfold oK;rw[hl,Jg ⟨hE,hK⟩,hr];rfl
    rw[hK] at O0;unfold RJ;rw[zy];generalize oD l=nn at*;generalize iQ l=bl at*;clear hE hK;(refine Ye Tryz.func130 Tryz.ntmps130 ?_;intro Fr);(repeat' (first|refine Y3 ?_|(refine Wb ?_;intro b)|refine Wc (N0 ..) ?_|refine Wc (O0 ..) ?_|refine Wc (R0 ..) ?_|fail));exact Ea (x:= .inr ⟨rfl,_,rfl,rfl⟩)
  ·have zy:oK cs ps k=none:=by unfold oK;rw[hl,Jf (fun h=>hK h.2)]
   unfold RJ;rw[zy];generalize oD l=nn at*;generalize iQ l=bl at*;generalize oC l=kk at*;clear hE;(refine Ye Tryz.func130 Tryz.ntmps130 ?_;intro Fr);(refine JF ?_;intro b);exact Ea (x:= .inr ⟨rfl,_,rfl,rfl⟩)
 ·rw[aCC hE] at O0;have zy:oK cs ps k=none:=by unfold oK;rw[hl,Jf (fun h=>hE h.1)]
  unfold RJ;rw[zy];generalize lT l=ee at*;(refine Ye Tryz.func130 Tryz.ntmps130 ?_;intro Fr);(refine JF ?_;intro b);exact Ea (x:= .inr ⟨rfl,_,rfl,rfl⟩)
theorem YY {cs:Cells} {ps:cH} {k:Nat} {n:Int} {zs:List bU} {b:Bool} (h:oK cs ps k=some (n,zs,b)):zs.length≤40∧ ∀ p∈zs,eC p=0:=by
 unfold oK at h;split at h
 ·cases hr:mE (iQ (RI cs ps k)) with
  |none=>rw[hr] at h;cases h
  |some y=>
   rw[hr] at h;simp only[ej,Option.some.injEq,Prod.mk.injEq] at h;obtain⟨_,rfl,_⟩:=h;have hw:=mZ (vM hr).1;exact⟨hw.1,hw.2.1⟩
 ·cases h
def zBl:bU:=(0,0,0,[])
def bV (cs:Cells) (ps:cH) (p:Int×Int):bU×Int:=
 if p.1<2∨(cs.length:Int)≤p.1∨p.2<0 then (zBl,12) else
 match oK cs ps p.1.toNat with
 |none=>(zBl,18)
 |some r=>if (r.2.1.length:Int)≤p.2 then (zBl,12) else (r.2.1.getD p.2.toNat zBl,0)
theorem auQ {a w:Option Addr} {ca cw:Nat} {cs:Cells} {ps:cH} {k:Nat} {n:Int} {zs:List bU} {b:Bool} (hk:k<cs.length) (hg:bA.Good cs ps) (h:oK cs ps k=some (n,zs,b)):Ct lk 130 [.agg #[.slice a cs.length ca, .slice w ps.length cw], .int .i64 (k:Int)] [sl 1 (.slice a cs.length ca) (cs.map fS),sl 2 (.slice w ps.length cw) (ps.map fP)] fun v H'=> ∃ q c,v= .tuple #[.int .i64 n, .slice q zs.length c, .bool b, .bool true]∧H'=[own (.slice q zs.length c) 175 4 zs.length (flat BR zs)]:=
 bY (RL a w ca cw cs ps k hk hg) fun v H' h2=>by
  rcases h2 with⟨n',zs',b',q,c,e,h3,h4⟩|⟨e,_⟩
  ·rw[h] at e;cases e;exact⟨q,c,h3,h4⟩
  ·rw[h] at e;cases e
theorem auR {a w:Option Addr} {ca cw:Nat} {cs:Cells} {ps:cH} {k:Nat} (hk:k<cs.length) (hg:bA.Good cs ps) (h:oK cs ps k=none):Ct lk 130 [.agg #[.slice a cs.length ca, .slice w ps.length cw], .int .i64 (k:Int)] [sl 1 (.slice a cs.length ca) (cs.map fS),sl 2 (.slice w ps.length cw) (ps.map fP)] fun v H'=> ∃ n,v= .tuple #[.int .i64 n, .slice none 0 0, .bool false, .bool false]∧H'=[]:=
 bY (RL a w ca cw cs ps k hk hg) fun v H' h2=>by
  rcases h2 with⟨n',zs',b',q,c,e,_⟩|⟨_,n,h3,h4⟩
  ·rw[h] at e;cases e
  ·exact⟨n,h3,h4⟩
theorem agU (a w:Option Addr) (ca cw:Nat) (cs:Cells) (ps:cH) (p:Int×Int) (hg:bA.Good cs ps):
  Ct lk 179 [.agg #[.slice a cs.length ca, .slice w ps.length cw], .agg #[.int .i64 p.1, .int .i64 p.2]] [sl 1 (.slice a cs.length ca) (cs.map fS),sl 2 (.slice w ps.length cw) (ps.map fP)] fun v H'=>v= .tuple #[.agg #[.int .i64 (bV cs ps p).1.1, .int .i64 (bV cs ps p).1.2.1, .int .i64 (bV cs ps p).1.2.2.1, .string (str (bV cs ps p).1.2.2.2)], .int .i64 (bV cs ps p).2]∧H'=[]:=by
 obtain⟨x,y⟩:=p;have hn1:=hg.n1;by_cases h1:x<2∨(cs.length:Int)≤x∨y<0
 ·have e:bV cs ps (x,y)=(zBl,12):=by unfold bV;rw[Jg h1]
  rw[e];unfold zBl;dsimp only;(refine Ye Tryz.func179 Tryz.ntmps179 ?_;intro Fr);(repeat' (first|refine Y3 ?_|(refine Wb ?_;intro b)|(refine Ws ?_ ?_<;>intro h)|fail));all_goals first|(exfalso;omega)|exact Ea (x:=⟨rfl,rfl⟩)
 ·obtain⟨k,rfl⟩:=adg (by omega:0≤x);obtain⟨j,rfl⟩:=adg (by omega:0≤y);have hk:k<cs.length:=Z8
  cases zy:oK cs ps k with
  |none=>
   have C0:=auR (a:=a) (w:=w) (ca:=ca) (cw:=cw) hk hg zy;have e:bV cs ps ((k:Int),(j:Int))=(zBl,18):=by unfold bV;rw[Jf h1];dsimp only;rw[dc,zy]
   rw[e];unfold zBl;dsimp only;(refine Ye Tryz.func179 Tryz.ntmps179 ?_;intro Fr);(repeat' (first|refine Y3 ?_|(refine Wb ?_;intro b)|fail));(refine Ca (C0) ?_;rintro _ _ ⟨_,⟨n,rfl,rfl⟩,rfl⟩;refine Da ?_);refine bM ?_;exact Ea (x:=⟨rfl,rfl⟩)
  |some r=>
   obtain⟨n,zs,b⟩:=r;have C0:=auQ (a:=a) (w:=w) (ca:=ca) (cw:=cw) hk hg zy;have hz40:=(YY zy).1;by_cases h2:zs.length≤j
   ·have e:bV cs ps ((k:Int),(j:Int))=(zBl,12):=by unfold bV;rw[Jf h1];dsimp only;rw[dc,zy];dsimp only;rw[Jg Z8]
    rw[e];unfold zBl;dsimp only;(refine Ye Tryz.func179 Tryz.ntmps179 ?_;intro Fr);(repeat' (first|refine Y3 ?_|(refine Wb ?_;intro b)|fail));(refine Ca (C0) ?_;rintro _ _ ⟨_,⟨q,c,rfl,rfl⟩,rfl⟩;refine Da ?_);refine bM ?_;exact Ea (x:=⟨rfl,rfl⟩)
   ·obtain⟨z,hz⟩: ∃ z,zs[j]? =some z:=⟨_,ak Z8⟩;have e:bV cs ps ((k:Int),(j:Int))=(z,0):=by unfold bV;rw[Jf h1];dsimp only;rw[dc,zy];dsimp only;rw[Jf Z8,dc,my,hz];rfl
    rw[e];dsimp only;(refine Ye Tryz.func179 Tryz.ntmps179 ?_;intro Fr);(repeat' (first|refine Y3 ?_|(refine Wb ?_;intro b)|fail));(refine Ca (C0) ?_;rintro _ _ ⟨_,⟨q,c,rfl,rfl⟩,rfl⟩;refine Da ?_);refine bM ?_;exact Ea (x:=⟨rfl,rfl⟩)
end use
namespace cO
open cK lH fix
def rK:List (Int×Int)→Bool
 |[]=>true
 |p::l=>if gT p then rK l else false
theorem RO {ps:List (Int×Int)} {k:Nat} {p:Int×Int} (hp:ps[k]? =some p) (h:rK (ps.take k)=true):(gT p→rK (ps.take (k+1))=true)∧(¬ gT p→rK ps=false):=by
 induction ps generalizing k with
 |nil=>simp at hp
 |cons q ps ih=>
  cases k with
  |zero=>
   simp at hp;subst hp;exact⟨fun h=>by simp [rK,h],fun h=>by simp [rK,h]⟩
  |succ k=>
   simp only[List.take_succ_cons,rK] at h ⊢;split at h
   ·rename_i h2;rw[Jg h2,Jg h2];exact ih ZK h
   ·cases h
theorem auV {ps:List (Int×Int)} (h:rK ps=true): ∀ p∈ps,gT p:=by
 induction ps with
 |nil=>intro p hp;exact absurd hp List.not_mem_nil
 |cons q ps ih=>
  rw[rK] at h;split at h
  ·rename_i h2;intro p hp;rcases List.mem_cons.1 hp with rfl|hp
   ·exact h2
   ·exact ih h p hp
  ·cases h
def lV (k g z:Int) (ps:List (Int×Int)):Int:=
 if (k≠1∧k≠2)∨g<0∨2147483647<g then 1 else if z<0∨4096<z then 2 else if (ps.length:Int)≠(z+512-1)/512 then 4 else if rK ps=true then 0 else 4
def prs:List UInt8→List (Int×Int)
 |a::b::l=>((a.toNat:Int),(b.toNat:Int))::prs l
 |_=>[]
theorem aCK {l:List UInt8} {i:Nat} {a b:UInt8} (ha:l[i]? =some a) (hb:l[i+1]? =some b):prs (l.drop i)=((a.toNat:Int),(b.toNat:Int))::prs (l.drop (i+2)):=by
 have h1:=(aj.1 ha);have h2:=(aj.1 hb);obtain⟨g1,e1⟩:=h1;obtain⟨g2,e2⟩:=h2;rw[bh g1,bh g2,e1,e2,prs]
theorem aKN {l:List UInt8} {i:Nat} (h:l.length≤i):prs (l.drop i)=[]:=by
 rw[adh h];rfl
theorem aqT: ∀ (n:Nat) (l:List UInt8),l.length≤n→(prs l).length≤n:=by
 intro n;induction n using Nat.strongRecOn with
 |_ n ih=>
  intro l h
  match l,h with
  |[],_=>exact fe _
  |[a],_=>exact fe _
  |a::b::l,h=>
   rw[prs,dv];simp only[dv] at h;have:=ih (n-2) Z8 l Z8;omega
def kI (l:List UInt8):Int:=((l.getD 0 0).toNat:Int)
def gI (l:List UInt8):Int:=(cF (dI l 1 5):Int)
def zI (l:List UInt8):Int:=(cF (dI l 5 7):Int)
def pI (l:List UInt8):List (Int×Int):=prs (l.drop 7)
def sR (l:List UInt8):Prop:=7≤l.length∧l.length%2=1∧lV (kI l) (gI l) (zI l) (pI l)=0
instance (l:List UInt8):Decidable (sR l):=by unfold sR;infer_instance
theorem xM {l:List UInt8} (h:sR l): ∀ p∈pI l,gT p:=by
 have h2:=h.2.2;unfold lV at h2;split at h2
 ·cases h2
 ·split at h2
  ·cases h2
  ·split at h2
   ·cases h2
   ·split at h2
    ·rename_i h3;exact auV h3
    ·cases h2
attribute [local irreducible] box own sl bL aH bJ Qt cN cM dG dL eQ
theorem RP (k g z:Int) (q:Option Addr) (c:Nat) (ps:List (Int×Int)) (hk:(kg .i64 k).wf=true) (hg:(kg .i64 g).wf=true) (hz:(kg .i64 z).wf=true) (hl:ps.length≤1000000000000):
  Ct lk 238 [.agg #[.int .i64 k, .int .i64 g, .int .i64 z, .slice q ps.length c]] [sl 2 (.slice q ps.length c) (ps.map jP)] fun v H'=>v= .int .i64 (lV k g z ps)∧H'=[]:=by
 have hzb:=IV hz;by_cases h1:(k≠1∧k≠2)∨g<0∨2147483647<g
 ·have e:lV k g z ps=1:=by unfold lV;rw[Jg h1]
  rw[e];(refine Ye Tryz.func238 Tryz.ntmps238 ?_;intro Fr);(repeat' (first|refine Y3 ?_|(refine Wb ?_;intro b)|(refine Ws ?_ ?_<;>intro h)|fail));all_goals first|(exfalso;omega)|exact Ea (x:=⟨rfl,rfl⟩)
 ·by_cases h2:z<0∨4096<z
  ·have e:lV k g z ps=2:=by unfold lV;rw[Jf h1,Jg h2]
   rw[e];(refine Ye Tryz.func238 Tryz.ntmps238 ?_;intro Fr);(repeat' (first|refine Y3 ?_|(refine Wb ?_;intro b)|(refine Ws ?_ ?_<;>intro h)|fail));all_goals first|(exfalso;omega)|exact Ea (x:=⟨rfl,rfl⟩)
  ·by_cases h3:(ps.length:Int)≠(z+512-1)/512
   ·have e:lV k g z ps=4:=by unfold lV;rw[Jf h1,Jf h2,Jg h3]
    rw[e];(refine Ye Tryz.func238 Tryz.ntmps238 ?_;intro Fr);(repeat' (first|refine Y3 ?_|(refine Wb ?_;intro b)|(refine Ws ?_ ?_<;>intro h)|fail));all_goals first|(exfalso;omega)|exact Ea (x:=⟨rfl,rfl⟩)
   ·have e:lV k g z ps=if rK ps=true then 0 else 4:=by unfold lV;rw[Jf h1,Jf h2,Jf h3]
    rw[e];have h3':(ps.length:Int)=(z+512-1)/512:=aab.1 h3;have zy:k=1∨k=2:=Z8
    rcases zy with rfl|rfl
    ·(refine Ye Tryz.func238 Tryz.ntmps238 ?_;intro Fr);(refine bF ?_;intro b);(refine cU (σ:=Nat) (fun k=>k≤ps.length∧rK (ps.take k)=true) (fun k=>[(43, .int .i64 (k:Int))]) (fun k=>ps.length-k) (0) ZD Ze (fun k ⟨hk,ha⟩=> ?_);refine Da ?_);rcases dW ps k with⟨p,hp,hlt⟩|zw
     ·have R0:=RN p;have ht:=RO hp ha;by_cases ho:gT p
      ·have e0:decide (gT p)=true:=by simpa using ho
       rw[e0] at R0;(refine yX ?_;intro b);refine Ee (k+1) ?_ ?_
       ·exact⟨hlt,ht.1 ho⟩
       ·omega
      ·have e0:decide (gT p)=false:=by simpa using ho
       rw[e0] at R0;rw[Jf (by rw[ht.2 ho];decide)];(refine yX ?_;intro b);exact Ea (x:=⟨rfl,rfl⟩)
     ·have zx:k=ps.length:=Z8
      subst zx;rw[mz] at ha;rw[Jg ha];refine bM ?_;exact Ea (x:=⟨rfl,rfl⟩)
    ·(refine Ye Tryz.func238 Tryz.ntmps238 ?_;intro Fr);(refine bF ?_;intro b);(refine cU (σ:=Nat) (fun k=>k≤ps.length∧rK (ps.take k)=true) (fun k=>[(43, .int .i64 (k:Int))]) (fun k=>ps.length-k) (0) ZD Ze (fun k ⟨hk,ha⟩=> ?_);refine Da ?_);rcases dW ps k with⟨p,hp,hlt⟩|zw
     ·have R0:=RN p;have ht:=RO hp ha;by_cases ho:gT p
      ·have e0:decide (gT p)=true:=by simpa using ho
       rw[e0] at R0;(refine yX ?_;intro b);refine Ee (k+1) ?_ ?_
       ·exact⟨hlt,ht.1 ho⟩
       ·omega
      ·have e0:decide (gT p)=false:=by simpa using ho
       rw[e0] at R0;rw[Jf (by rw[ht.2 ho];decide)];(refine yX ?_;intro b);exact Ea (x:=⟨rfl,rfl⟩)
     ·have zx:k=ps.length:=Z8
      subst zx;rw[mz] at ha;rw[Jg ha];refine bM ?_;exact Ea (x:=⟨rfl,rfl⟩)
def aCL (l:List UInt8) (v:Value) (H':List Ent):Prop:=
 (sR l∧ ∃ q c,v= .tuple #[.agg #[.int .i64 (kI l), .int .i64 (gI l), .int .i64 (zI l), .slice q (pI l).length c], .int .i64 0]∧H'=[own (.slice q (pI l).length c) 77 2 (pI l).length (flat jP (pI l))])∨
 (¬ sR l∧v= .tuple #[.agg #[.int .i64 0, .int .i64 0, .int .i64 0, .slice none 0 0], .int .i64 4]∧H'=[])
theorem aaB (l:List UInt8) (hl:l.length≤4000000):Ct lk 180 [.string (str l)] [] (aCL l):=by
 have bad: ¬ sR l→aCL l (.tuple #[.agg #[.int .i64 0, .int .i64 0, .int .i64 0, .slice none 0 0], .int .i64 4]) []:=fun h=> .inr ⟨h,rfl,rfl⟩
 by_cases h7:l.length<7
 ·have B0:=bad fun h=>by have:=h.1;omega
  (refine Ye Tryz.func180 Tryz.ntmps180 ?_;intro Fr);(refine bF ?_;intro b);exact Ea (x:=B0)
 ·by_cases h2:l.length%2=0
  ·have B0:=bad fun h=>by have:=h.2.1;omega
   have zr:(l.length:Int)%2=0:=Z8
   (refine Ye Tryz.func180 Tryz.ntmps180 ?_;intro Fr);(refine bF ?_;intro b);exact Ea (x:=B0)
  ·have zr: ¬ (l.length:Int)%2=0:=Z8
   obtain⟨b0,zq⟩: ∃ b0,l[0]? =some b0:=⟨_,ak Z8⟩;have hk:kI l=(b0.toNat:Int):=by unfold kI;rw[my,zq];rfl
   have U1:=EZ (dI l 1 5) ZE;have U2:=EZ (dI l 5 7) ZE;have u1:cF (dI l 1 5)<4294967296:=by
    have:=qT (dI l 1 5);have h2:(dI l 1 5).length=4:=by unfold dI;rw[ar,bq];omega
    rwa [h2] at this
   have u2:cF (dI l 5 7)<65536:=by
    have:=qT (dI l 5 7);have h2:(dI l 5 7).length=2:=by unfold dI;rw[ar,bq];omega
    rwa [h2] at this
   have hg:gI l=(cF (dI l 1 5):Int):=rfl;have hz:zI l=(cF (dI l 5 7):Int):=rfl;have hbt:=b0.toNat_lt;have hs1:(l.drop 1).take (5-1)=dI l 1 5:=rfl;have hs2:(l.drop 5).take (7-5)=dI l 5 7:=rfl;have hpl:(pI l).length≤4000000:=aqT 4000000 _ Zo;have wk:(kg .i64 (kI l)).wf=true:=by rw[hk];simp [k9,ju,jv,iz,jm];omega
   have wg:(kg .i64 (gI l)).wf=true:=by rw[hg];simp [k9,ju,jv,iz,jm];omega
   have wz:(kg .i64 (zI l)).wf=true:=by rw[hz];simp [k9,ju,jv,iz,jm];omega
   have CK:=fun q c=>RP (kI l) (gI l) (zI l) q c (pI l) wk wg wz Z8
   obtain⟨ce,zv⟩: ∃ ce,lV (kI l) (gI l) (zI l) (pI l)=ce:=⟨_,rfl⟩;rw[zv] at CK;have zy:sR l↔ce=0:=by
    unfold sR;rw[zv];exact⟨fun h=>h.2.2,fun h=>⟨Z8,Z8,h⟩⟩
   unfold aCL;rw[hk,hg,hz] at CK ⊢;generalize cF (dI l 1 5)=n1 at*;generalize cF (dI l 5 7)=n2 at*;(refine Ye Tryz.func180 Tryz.ntmps180 ?_;intro Fr);(repeat' (first|refine Y3 ?_|(refine Wb ?_;intro b)|refine Wc (U1 ..) ?_|refine Wc (U2 ..) ?_|fail));rename_i br;refine aO (aS _ 77 2) ?_;(refine aC (σ:=Nat×Option Addr×Nat×List (Int×Int)) (fun x=>(7+2*x.1≤l.length∧x.2.2.2.length=x.1)∧x.2.2.2++prs (l.drop (7+2*x.1))=pI l) (fun x=>[(9, .int .i64 ((7+2*x.1:Nat):Int))]) (fun x=>[own (.slice x.2.1 x.2.2.2.length x.2.2.1) 77 2 x.2.2.2.length (flat jP x.2.2.2),box b [.int .i64 (b0.toNat:Int), .int .i64 (n1:Int), .int .i64 (n2:Int), .slice x.2.1 x.2.2.2.length x.2.2.1] 79]) _ (fun x=>l.length-7-2*x.1) ((0,none,0,[])) (by exact⟨⟨by show 7+2*0≤_;omega,rfl⟩,rfl⟩) Ze Zb (fun⟨j,q3,c3,ps⟩ ⟨⟨hj,zu⟩,zx⟩=> ?_);refine Da ?_);dsimp only at hj zu zx ⊢;rcases ig (7+2*j) l.length with hlt|hge
   ·obtain⟨x,hx⟩: ∃ x,l[7+2*j]? =some x:=⟨_,ak hlt⟩;obtain⟨y,hy⟩: ∃ y,l[7+2*j+1]? =some y:=⟨_,ak Z8⟩;rw[aCK hx hy] at zx;have zw:((7+2*j:Nat):Int)+2=((7+2*(j+1):Nat):Int):=Z8
    have hxt:=x.toNat_lt;have hyt:=y.toNat_lt;generalize hi:7+2*j=i at*;refine kB ?_;(refine aD (Hq:=[_]) [1] [15] rfl Jd Za ?_);refine jV ?_;(refine aB 12 ?_;refine Oa (l:=by exact aT rfl rfl rfl Zp rfl rfl Z9 rfl) (k:= ?_);rintro _ _ ⟨q9,rfl,rfl⟩;refine Te ?_;(try refine Da ?_));(refine aB 13 ?_;refine Oa (l:=by exact (by first|exact Ma (jP) [((x.toNat:Int),(y.toNat:Int))] rfl|exact Mb (jP) [((x.toNat:Int),(y.toNat:Int))] rfl)) (k:= ?_);rintro _ _ ⟨q4,c4,rfl,rfl⟩;refine Te ?_;(try refine Da ?_));refine sO ?_;rw[zw];refine Ee ((j+1,q4,c4,ps++[((x.toNat:Int),(y.toNat:Int))])) ?_ ?_
    ·refine⟨⟨by dsimp only;omega,by dsimp only;rw[List.length_append,List.length_singleton,zu]⟩, ?_⟩;dsimp only;rw[fu,show 7+2*(j+1)=i+2 by omega];exact zx
    ·dsimp only;omega
   ·rw[aKN Z8,ke] at zx;subst zx;by_cases zt:ce=0
    ·subst zt;refine ER ?_;exact Ea (x:= .inl ⟨zy.2 rfl,q3,c3,rfl,rfl⟩)
    ·refine ER ?_;exact Ea (x:= .inr ⟨fun h=>zt (zy.1 h),rfl,rfl⟩)
end cO
namespace use
open bA dZ cO
theorem JV (cs:Cells) (ps:cH) (p:Int×Int):(bV cs ps p).1.2.2.2.length≤600:=by
 unfold bV;split
 ·exact fe _
 ·split
  ·exact fe _
  ·rename_i r hr;split
   ·exact fe _
   ·obtain⟨n,zs,b⟩:=r;rename_i h1 h2;dsimp only at h2 ⊢;have hlt:p.2.toNat<zs.length:=Z8
    rw[my,ak hlt];exact (mO ((YY hr).2 _ (List.getElem_mem hlt))).2.2.2.2.2.2
theorem FG {cs:Cells} {ps:cH} {p:Int×Int} (h:(bV cs ps p).2=0):2≤p.1∧p.1<(cs.length:Int)∧0≤p.2:=by
 unfold bV at h;split at h
 ·cases h
 ·omega
def iW (cs:Cells) (ps:cH) (n k:Int) (p:Int×Int):List UInt8×Int:=
 if (bV cs ps p).2=0∧(bV cs ps p).1.1=1∧(bV cs ps p).1.2.1=n∧(bV cs ps p).1.2.2.1=k then ((bV cs ps p).1.2.2.2,0) else ([],18)
def nY (cs:Cells) (ps:cH) (p:Int×Int) (g n:Int):Option (List UInt8):=
 if (bV cs ps p).2=0∧(bV cs ps p).1.1=2∧(bV cs ps p).1.2.1=n∧sR (bV cs ps p).1.2.2.2∧gI (bV cs ps p).1.2.2.2=g then some (bV cs ps p).1.2.2.2 else none
theorem auW {l:List UInt8} (hl:l.length≤4000000) (h:sR l):Ct lk 180 [.string (str l)] [] fun v H'=> ∃ q c,v= .tuple #[.agg #[.int .i64 (kI l), .int .i64 (gI l), .int .i64 (zI l), .slice q (pI l).length c], .int .i64 0]∧H'=[own (.slice q (pI l).length c) 77 2 (pI l).length (flat jP (pI l))]:=
 bY (aaB l hl) fun v H' h2=>by
  rcases h2 with⟨_,h3⟩|⟨h3,_⟩
  ·exact h3
  ·exact absurd h h3
theorem aCM {l:List UInt8} (hl:l.length≤4000000) (h: ¬ sR l):Ct lk 180 [.string (str l)] [] fun v H'=>v= .tuple #[.agg #[.int .i64 0, .int .i64 0, .int .i64 0, .slice none 0 0], .int .i64 4]∧H'=[]:=
 bY (aaB l hl) fun v H' h2=>by
  rcases h2 with⟨h3,_⟩|⟨_,h3⟩
  ·exact absurd h3 h
  ·exact h3
attribute [local irreducible] box own sl bL aH bJ Qt cN cM dG dL eQ
theorem RQ (a w:Option Addr) (ca cw:Nat) (cs:Cells) (ps:cH) (n k:Int) (p:Int×Int) (hg:bA.Good cs ps):
  Ct lk 112 [.agg #[.slice a cs.length ca, .slice w ps.length cw], .int .i64 n, .int .i64 k, .agg #[.int .i64 p.1, .int .i64 p.2]] [sl 1 (.slice a cs.length ca) (cs.map fS),sl 2 (.slice w ps.length cw) (ps.map fP)] fun v H'=>v= .tuple #[.string (str (iW cs ps n k p).1), .int .i64 (iW cs ps n k p).2]∧H'=[]:=by
 have B0:=agU a w ca cw cs ps p hg;unfold iW;obtain⟨⟨⟨bk,bi,bn,bt⟩,e⟩,hb⟩: ∃ r,bV cs ps p=r:=⟨_,rfl⟩;rw[hb] at B0 ⊢;dsimp only at B0 ⊢;by_cases h:e=0∧bk=1∧bi=n∧bn=k
 ·rw[Jg h];obtain⟨rfl,rfl,rfl,rfl⟩:=h;(refine Ye Tryz.func112 Tryz.ntmps112 ?_;intro Fr);(repeat' (first|refine Y3 ?_|(refine Wb ?_;intro b)|refine Wc (B0 ..) ?_|fail));exact Ea (x:=⟨rfl,rfl⟩)
 ·rw[Jf h];(refine Ye Tryz.func112 Tryz.ntmps112 ?_;intro Fr);(repeat' (first|refine Y3 ?_|(refine Wb ?_;intro b)|refine Wc (B0 ..) ?_|(refine Ws ?_ ?_<;>intro h)|fail));all_goals first|(exfalso;omega)|exact Ea (x:=⟨rfl,rfl⟩)
def aTY (cs:Cells) (ps:cH) (p:Int×Int) (g n:Int) (v:Value) (H':List Ent):Prop:=
 (∃ l q c,nY cs ps p g n=some l∧v= .tuple #[.agg #[.int .i64 (kI l), .int .i64 (gI l), .int .i64 (zI l), .slice q (pI l).length c], .string (str l), .int .i64 0]∧H'=[own (.slice q (pI l).length c) 77 2 (pI l).length (flat jP (pI l))])∨
 (nY cs ps p g n=none∧v= .tuple #[.agg #[.int .i64 0, .int .i64 0, .int .i64 0, .slice none 0 0], .string (str []), .int .i64 18]∧H'=[])
theorem aaC (a w qa qg:Option Addr) (ca cw ca2 cg:Nat) (cs:Cells) (ps:cH) (at':List (Int×Int)) (aA:List Int) (i:Nat) (p:Int×Int) (g:Int) (hp:at'[i]? =some p) (zw:aA[i]? =some g) (hl:at'.length≤1000) (hg:bA.Good cs ps):
  Ct lk 111 [.agg #[.slice a cs.length ca, .slice w ps.length cw], .agg #[.slice qa at'.length ca2, .slice qg aA.length cg], .int .i64 (i:Int)] [sl 1 (.slice a cs.length ca) (cs.map fS),sl 2 (.slice w ps.length cw) (ps.map fP),sl 2 (.slice qa at'.length ca2) (at'.map jP),sl 1 (.slice qg aA.length cg) (aA.map fI)] (aTY cs ps p g (i:Int)):=by
 have B0:=agU a w ca cw cs ps p hg;have ht:=JV cs ps p;have hli:i<at'.length:=(aj.1 hp).1;have hlg:i<aA.length:=(aj.1 zw).1;unfold aTY nY;obtain⟨⟨⟨bk,bi,bn,bt⟩,e⟩,hb⟩: ∃ r,bV cs ps p=r:=⟨_,rfl⟩;rw[hb] at B0 ht ⊢;dsimp only at B0 ht ⊢;by_cases h:e=0∧bk=2∧bi=(i:Int)
 ·obtain⟨rfl,rfl,rfl⟩:=h;by_cases zx:sR bt
  ·have R0:=auW Z8 zx;by_cases zy:gI bt=g
   ·rw[Jg ⟨rfl,rfl,rfl,zx,zy⟩];(refine Ye Tryz.func111 Tryz.ntmps111 ?_;intro Fr);(repeat' (first|refine Y1 ?_|(refine Wb ?_;intro b)|refine Wc (B0 ..) ?_|(refine aB 6 ?_;refine cD 10 Je ?_ ?_)|(refine Wi ?_;intro b)|fail));all_goals
     (refine Ca (R0) ?_;rintro _ _ ⟨_,⟨q9,c9,rfl,rfl⟩,rfl⟩;refine Da ?_);(refine iB ?_;intro b);(refine aD (Hq:=[_,_,_]) [0,4,9] [] rfl Jd Za ?_);(repeat' (first|refine Y2 ?_|fail));(refine aD (Hq:=[_,_]) [0,2] [] rfl Jd Za ?_);refine sO ?_;exact Ea (x:= .inl ⟨bt,q9,c9,rfl,rfl,rfl⟩)
   ·rw[Jf (fun h=>zy h.2.2.2.2)];(refine Ye Tryz.func111 Tryz.ntmps111 ?_;intro Fr);(repeat' (first|refine Y1 ?_|(refine Wb ?_;intro b)|refine Wc (B0 ..) ?_|(refine aB 6 ?_;refine cD 10 Je ?_ ?_)|(refine Wi ?_;intro b)|fail));all_goals
     (refine Ca (R0) ?_;rintro _ _ ⟨_,⟨q9,c9,rfl,rfl⟩,rfl⟩;refine Da ?_);(refine JG ?_;intro b);exact Ea (x:= .inr ⟨rfl,rfl,rfl⟩)
  ·have R0:=aCM Z8 zx;rw[Jf (fun h=>zx h.2.2.2.1)];(refine Ye Tryz.func111 Tryz.ntmps111 ?_;intro Fr);(repeat' (first|refine Y1 ?_|(refine Wb ?_;intro b)|refine Wc (B0 ..) ?_|(refine aB 6 ?_;refine cD 10 Je ?_ ?_)|(refine Wi ?_;intro b)|fail));all_goals
    (repeat' (first|refine Y1 ?_|(refine Wb ?_;intro b)|refine Wc (R0 ..) ?_|fail));exact Ea (x:= .inr ⟨rfl,rfl,rfl⟩)
 ·rw[Jf (fun h2=>h ⟨h2.1,h2.2.1,h2.2.2.1⟩)];(refine Ye Tryz.func111 Tryz.ntmps111 ?_;intro Fr);(repeat' (first|refine Y1 ?_|(refine Wb ?_;intro b)|refine Wc (B0 ..) ?_|(refine Ws ?_ ?_<;>intro h)|(refine aB 6 ?_;refine cD 10 Je ?_ ?_)|(refine Wi ?_;intro b)|fail));all_goals first|(exfalso;omega)|exact Ea (x:= .inr ⟨rfl,rfl,rfl⟩)
end use
namespace use
open bA dZ cO cK
abbrev Item:=Int×Nat
def fQ (cs:Cells) (ps:cH) (n:Int):List (Int×Int)→Nat→Option (List Item)
 |[],_=>some []
 |p::t,k=>if p.1=0 then fQ cs ps n t (k+1) else if (iW cs ps n (k:Int) p).2=0 then (fQ cs ps n t (k+1)).map ((p.1,(iW cs ps n (k:Int) p).1.length):: ·) else none
def FH (cs:Cells) (ps:cH) (p:Int×Int) (g:Int) (n:Nat):Option (List Item):=
 if p.1=0 then some [] else match nY cs ps p g (n:Int) with
 |none=>none
 |some l=>(fQ cs ps (n:Int) (pI l) 0).map ((p.1,l.length):: ·)
def its (cs:Cells) (ps:cH):List (Int×Int)→List Int→Nat→Option (List Item)
 |p::at',g::aA,n=>match FH cs ps p g n with
  |none=>none
  |some a=>(its cs ps at' aA (n+1)).map (a++ ·)
 |_,_,_=>some []
theorem PB (cs:Cells) (ps:cH) (aA:List Int) (n:Nat):its cs ps [] aA n=some []:=by cases aA<;>rfl
theorem agX (cs:Cells) (ps:cH) (at':List (Int×Int)) (n:Nat):its cs ps at' [] n=some []:=by cases at'<;>rfl
theorem map_nil (o:Option (List Item)):o=o.map (([]:List Item)++ ·):=by cases o<;>rfl
def qI:List Item→Nat
 |[]=>0
 |x::L=>x.2+qI L
theorem sS (a b:List Item):qI (a++b)=qI a+qI b:=by
 induction a with
 |nil=>simp [qI]
 |cons x a ih=>rw[dw,qI,qI,ih,Nat.add_assoc]
def cC (F:Nat→Nat):List Item→Nat→Nat
 |[]=>F
 |x::L=>cC (gN F x.1.toNat (F x.1.toNat+x.2)) L
theorem RS (F:Nat→Nat) (a b:List Item):cC F (a++b)=cC (cC F a) b:=by
 induction a generalizing F with
 |nil=>rfl
 |cons x a ih=>rw[dw,cC,cC,ih]
theorem aaD (L:List Item): ∀ (F:Nat→Nat) (j:Nat),cC F L j≤F j+qI L:=by
 induction L with
 |nil=>intro F j;exact Nat.le_refl _
 |cons x L ih=>
  intro F j;have:=ih (gN F x.1.toNat (F x.1.toNat+x.2)) j;rw[cC,qI];unfold gN at this ⊢;split at this
  ·rename_i h;subst h;omega
  ·omega
theorem JW (cs:Cells) (ps:cH) (n k:Int) (p:Int×Int):(iW cs ps n k p).1.length≤600:=by
 unfold iW;split
 ·exact JV cs ps p
 ·exact fe _
theorem mF {cs:Cells} {ps:cH} {p:Int×Int} {g n:Int} {l:List UInt8} (h:nY cs ps p g n=some l):(bV cs ps p).2=0∧(bV cs ps p).1.1=2∧(bV cs ps p).1.2.1=n∧sR l∧gI l=g∧(bV cs ps p).1.2.2.2=l∧l.length≤600:=by
 unfold nY at h;split at h
 ·rename_i h2;cases h;exact⟨h2.1,h2.2.1,h2.2.2.1,h2.2.2.2.1,h2.2.2.2.2,rfl,JV cs ps p⟩
 ·cases h
theorem acT {cs:Cells} {ps:cH} {n k:Int} {p:Int×Int} (h:(iW cs ps n k p).2=0):(bV cs ps p).2=0∧(bV cs ps p).1.1=1∧(bV cs ps p).1.2.1=n∧(bV cs ps p).1.2.2.1=k∧(iW cs ps n k p).1=(bV cs ps p).1.2.2.2:=by
 unfold iW at h ⊢;split at h
 ·rename_i h2;rw[Jg h2];exact⟨h2.1,h2.2.1,h2.2.2.1,h2.2.2.2,rfl⟩
 ·cases h
theorem aCN {cs:Cells} {ps:cH} {at':List (Int×Int)} {aA:List Int} {i:Nat} {p:Int×Int} {g:Int} (hp:at'[i]? =some p) (hg:aA[i]? =some g):its cs ps (at'.drop i) (aA.drop i) i=match FH cs ps p g i with|none=>none|some a=>(its cs ps (at'.drop (i+1)) (aA.drop (i+1)) (i+1)).map (a++ ·):=by
 obtain⟨h1,e1⟩:=aj.1 hp;obtain⟨h2,e2⟩:=aj.1 hg;rw[bh h1,bh h2,e1,e2,its]
theorem amG {cs:Cells} {ps:cH} {n:Int} {t:List (Int×Int)} {k:Nat} {p:Int×Int} (hp:t[k]? =some p):fQ cs ps n (t.drop k) k=if p.1=0 then fQ cs ps n (t.drop (k+1)) (k+1) else if (iW cs ps n (k:Int) p).2=0 then (fQ cs ps n (t.drop (k+1)) (k+1)).map ((p.1,(iW cs ps n (k:Int) p).1.length):: ·) else none:=by
 obtain⟨h1,e1⟩:=aj.1 hp;rw[bh h1,e1,fQ]
theorem acU {D a:List Item} {o:Option (List Item)}:(o.map (a++ ·)).map (D++ ·)=o.map ((D++a)++ ·):=by
 cases o with
 |none=>rfl
 |some x=>simp
def AS (cs:Cells) (ps:cH) (at':List (Int×Int)) (aA:List Int) (L:List Item):Prop:=bA.Good cs ps∧eT at' aA∧its cs ps at' aA 0=some L
def amH (cs:Cells) (ps:cH) (at':List (Int×Int)) (aA:List Int) (v:Value) (H':List Ent):Prop:=
 (∃ L q,AS cs ps at' aA L∧v= .tuple #[.slice q cs.length cs.length, .int .i64 0]∧H'=[own (.slice q cs.length cs.length) 3 1 cs.length (flat fI (dQ cs.length (cC (fun _=>0) L)))])∨
 ((¬ ∃ L,AS cs ps at' aA L)∧ ∃ e:Int,e≠0∧v= .tuple #[.slice none 0 0, .int .i64 e]∧H'=[])
theorem agY {a w qa qg:Option Addr} {ca cw ca2 cg:Nat} {cs:Cells} {ps:cH} {at':List (Int×Int)} {aA:List Int} {i:Nat} {p:Int×Int} {g:Int} (hp:at'[i]? =some p) (zy:aA[i]? =some g) (hl:at'.length≤1000) (hg:bA.Good cs ps) {l:List UInt8} (h:nY cs ps p g (i:Int)=some l):Ct lk 111 [.agg #[.slice a cs.length ca, .slice w ps.length cw], .agg #[.slice qa at'.length ca2, .slice qg aA.length cg], .int .i64 (i:Int)] [sl 1 (.slice a cs.length ca) (cs.map fS),sl 2 (.slice w ps.length cw) (ps.map fP),sl 2 (.slice qa at'.length ca2) (at'.map jP),sl 1 (.slice qg aA.length cg) (aA.map fI)] fun v H'=> ∃ q c,v= .tuple #[.agg #[.int .i64 (kI l), .int .i64 (gI l), .int .i64 (zI l), .slice q (pI l).length c], .string (str l), .int .i64 0]∧H'=[own (.slice q (pI l).length c) 77 2 (pI l).length (flat jP (pI l))]:=
 bY (aaC a w qa qg ca cw ca2 cg cs ps at' aA i p g hp zy hl hg) fun v H' h2=>by
  rcases h2 with⟨l',q,c,e,h3,h4⟩|⟨e,_⟩
  ·rw[h] at e;cases e;exact⟨q,c,h3,h4⟩
  ·rw[h] at e;cases e
theorem aCO {a w qa qg:Option Addr} {ca cw ca2 cg:Nat} {cs:Cells} {ps:cH} {at':List (Int×Int)} {aA:List Int} {i:Nat} {p:Int×Int} {g:Int} (hp:at'[i]? =some p) (zy:aA[i]? =some g) (hl:at'.length≤1000) (hg:bA.Good cs ps) (h:nY cs ps p g (i:Int)=none):Ct lk 111 [.agg #[.slice a cs.length ca, .slice w ps.length cw], .agg #[.slice qa at'.length ca2, .slice qg aA.length cg], .int .i64 (i:Int)] [sl 1 (.slice a cs.length ca) (cs.map fS),sl 2 (.slice w ps.length cw) (ps.map fP),sl 2 (.slice qa at'.length ca2) (at'.map jP),sl 1 (.slice qg aA.length cg) (aA.map fI)] fun v H'=>v= .tuple #[.agg #[.int .i64 0, .int .i64 0, .int .i64 0, .slice none 0 0], .string (str []), .int .i64 18]∧H'=[]:=
 bY (aaC a w qa qg ca cw ca2 cg cs ps at' aA i p g hp zy hl hg) fun v H' h2=>by
  rcases h2 with⟨l',q,c,e,_⟩|⟨_,h3⟩
  ·rw[h] at e;cases e
  ·exact h3
attribute [local irreducible] box own sl bL aH bJ Qt cN cM dG dL eQ
theorem aaE (a w qa qg:Option Addr) (ca cw ca2 cg:Nat) (cs:Cells) (ps:cH) (at':List (Int×Int)) (aA:List Int) (hc:cs.length≤maxLen) (hp:ps.length≤maxLen) (hw:WfM at' aA):
  Ct lk 48 [.agg #[.slice a cs.length ca, .slice w ps.length cw], .agg #[.slice qa at'.length ca2, .slice qg aA.length cg]] [sl 1 (.slice a cs.length ca) (cs.map fS),sl 2 (.slice w ps.length cw) (ps.map fP),sl 2 (.slice qa at'.length ca2) (at'.map jP),sl 1 (.slice qg aA.length cg) (aA.map fI)] (amH cs ps at' aA):=by
 have C0:=bP a w ca cw cs ps hc hp;by_cases hd:bZ cs ps=0
 ·have zv:=OZ hd;rw[hd] at C0;by_cases hm:eT at' aA
  ·have M0:=oL (.slice qa at'.length ca2) (.slice qg aA.length cg) hw hm;obtain⟨ha48,hg48,_⟩:=id hm;obtain⟨N,hN⟩: ∃ N,cs.length=N:=⟨_,rfl⟩;have hn1:=zv.n1;have PT:=fun n k p=>RQ a w ca cw cs ps n k p zv
   have bad: ∀ e:Int,e≠0→its cs ps at' aA 0=none→amH cs ps at' aA (.tuple #[.slice none 0 0, .int .i64 e]) []:=fun e he h=> .inr ⟨fun⟨L,h2⟩=>(by rw[h2.2.2] at h;cases h),e,he,rfl,rfl⟩
   have mM: ∀ L q,its cs ps at' aA 0=some L→amH cs ps at' aA (.tuple #[.slice q N N, .int .i64 0]) [own (.slice q N N) 3 1 N (flat fI (dQ N (cC (fun _=>0) L)))]:=fun L q h=> .inl ⟨L,q,⟨zv,hm,h⟩,by rw[hN],by rw[hN]⟩
   (refine Ye Tryz.func48 Tryz.ntmps48 ?_;intro Fr);(repeat' (first|refine Y3 ?_|(refine Wb ?_;intro b)|refine Wc (C0 ..) ?_|refine Wc (M0 ..) ?_|fail));refine aL wt rfl (dH (fI) (0) (c:=N) rfl rfl rfl Zf Zf rfl rfl Z8 Zi) ?_;rintro _ _ ⟨q1,rfl,rfl⟩;rw[nA];refine bM ?_;(refine aC (σ:=Nat×List Item) (fun x=>(x.1≤48∧qI x.2≤400000*x.1)∧its cs ps at' aA 0=(its cs ps (at'.drop x.1) (aA.drop x.1) x.1).map (x.2++ ·)) (fun x=>[(35, .int .i64 (x.1:Int))]) (fun x=>[own (.slice q1 N N) 3 1 N (flat fI (dQ N (cC (fun _=>0) x.2)))]) _ (fun x=>48-x.1) ((0,[])) (by exact⟨⟨fe _,fe _⟩,map_nil (its cs ps at' aA 0)⟩) Ze Zb (fun⟨i,D⟩ ⟨⟨hi,hD⟩,zy⟩=> ?_);refine Da ?_);dsimp only at hi hD zy ⊢;rcases ig i 48 with hlt|hge
   ·obtain⟨⟨px,py⟩,zr⟩: ∃ p,at'[i]? =some p:=⟨_,ak Z8⟩;obtain⟨g,zq⟩: ∃ g,aA[i]? =some g:=⟨_,ak Z8⟩;rw[aCN zr zq] at zy;unfold FH at zy;by_cases zg:px=0
    ·subst zg;rw[Jg rfl] at zy;dsimp only at zy;rw[acU,ke] at zy;(refine bF ?_;intro b);refine Ee ((i+1,D)) ?_ ?_
     ·exact⟨⟨by dsimp only;omega,by dsimp only;omega⟩,zy⟩
     ·dsimp only;omega
    ·rw[Jf zg] at zy;cases zw:nY cs ps (px,py) g (i:Int) with
     |none=>
      have I0:=aCO (a:=a) (w:=w) (qa:=qa) (qg:=qg) (ca:=ca) (cw:=cw) (ca2:=ca2) (cg:=cg) zr zq Z8 zv zw;rw[zw] at zy;(repeat' (first|refine Y3 ?_|(refine Wb ?_;intro b)|refine Wc (I0 ..) ?_|fail));exact Ea (x:=bad 18 Z9 zy)
     |some l=>
      have I0:=agY (a:=a) (w:=w) (qa:=qa) (qg:=qg) (ca:=ca) (cw:=cw) (ca2:=ca2) (cg:=cg) zr zq Z8 zv zw;rw[zw] at zy;dsimp only at zy;obtain⟨t1,t2,t3,t4,t5,t6,t7⟩:=mF zw;have za:=FG t1;dsimp only at za;obtain⟨c,rfl⟩:=adg (by omega:0≤px);have zf:c<N:=Z8
      have hpl:(pI l).length≤600:=aqT 600 _ Zo;obtain⟨F,hF⟩: ∃ F,cC (fun _=>0) D=F:=⟨_,rfl⟩;have hFc:F c≤400000*i:=by rw[←hF];have:=aaD D (fun _=>0) c;omega
      rw[hF];have gR:(dQ N F)[c]? =some ((F c:Nat):Int):=eG _ zf;have zn:((F c:Nat):Int)+(l.length:Int)=((F c+l.length:Nat):Int):=Z8
      have z8:gN F c (F c+l.length)=cC (fun _=>0) (D++[((c:Int),l.length)]):=by rw[RS,hF];rfl
      (refine bF ?_;intro b);(refine Ca (I0) ?_;rintro _ _ ⟨_,⟨q9,c9,rfl,rfl⟩,rfl⟩;refine Da ?_);(refine bF ?_;intro b);rw[zn];(refine dC wt (aI (f:=fI) (q':=((F c+l.length:Nat):Int)) rfl rfl rfl rfl Zk rfl Z8 Zg Jc rfl rfl Jb) ?_;rintro _ _ ⟨rfl,rfl⟩);rw[iD _ _ zf,z8];refine bM ?_;rw[show D++[((c:Int),l.length)]=D++[((c:Int),l.length)]++[] from (ke _).symm];(refine aC (σ:=Nat×List Item) (fun x=>(x.1≤(pI l).length∧qI x.2≤600*x.1)∧fQ cs ps (i:Int) (pI l) 0=(fQ cs ps (i:Int) ((pI l).drop x.1) x.1).map (x.2++ ·)) (fun x=>[(66, .int .i64 (x.1:Int))]) (fun x=>[own (.slice q1 N N) 3 1 N (flat fI (dQ N (cC (fun _=>0) (D++[((c:Int),l.length)]++x.2))))]) _ (fun x=>(pI l).length-x.1) ((0,[])) (by exact⟨⟨fe _,fe _⟩,map_nil (fQ cs ps (i:Int) (pI l) 0)⟩) Ze Zb (fun⟨k,D2⟩ ⟨⟨hk,z7⟩,zx⟩=> ?_);refine Da ?_);dsimp only at hk z7 zx ⊢;rcases ig k (pI l).length with zm|hgek
      ·obtain⟨⟨ux,uy⟩,hu⟩: ∃ p,(pI l)[k]? =some p:=⟨_,ak zm⟩;rw[amG hu] at zx;have P0:=PT (i:Int) (k:Int) (ux,uy);by_cases ze:ux=0
       ·subst ze;rw[Jg rfl] at zx;(refine bF ?_;intro b);refine Ee ((k+1,D2)) ?_ ?_
        ·exact⟨⟨by dsimp only;omega,by dsimp only;omega⟩,zx⟩
        ·dsimp only;omega
       ·rw[Jf ze] at zx;by_cases zu:(iW cs ps (i:Int) (k:Int) (ux,uy)).2=0
        ·rw[Jg zu] at zx;have zl:=FG (acT zu).1;have hpt:=JW cs ps (i:Int) (k:Int) (ux,uy);rw[zu] at P0;generalize (iW cs ps (i:Int) (k:Int) (ux,uy)).1=pt at*;dsimp only at zl;obtain⟨u,rfl⟩:=adg (by omega:0≤ux);have zb:u<N:=Z8
         have yz:fQ cs ps (i:Int) (pI l) 0=(fQ cs ps (i:Int) ((pI l).drop (k+1)) (k+1)).map ((D2++[((u:Int),pt.length)])++ ·):=by
          rw[zx, ←acU];rfl
         obtain⟨F2,zk⟩: ∃ F2,cC (fun _=>0) (D++[((c:Int),l.length)]++D2)=F2:=⟨_,rfl⟩;have hFu:F2 u≤400000*i+600+600*k:=by
          rw[←zk];have:=aaD (D++[((c:Int),l.length)]++D2) (fun _=>0) u;rw[sS,sS] at this;have h9:qI [((c:Int),l.length)]=l.length:=rfl;omega
         rw[zk];have gR2:(dQ N F2)[u]? =some ((F2 u:Nat):Int):=eG _ zb;have zt:((F2 u:Nat):Int)+(pt.length:Int)=((F2 u+pt.length:Nat):Int):=Z8
         have yx:gN F2 u (F2 u+pt.length)=cC (fun _=>0) (D++[((c:Int),l.length)]++(D2++[((u:Int),pt.length)])):=by
          rw[←fu,RS,zk];rfl
         (refine YQ ?_;intro b);rw[zt];(refine dC wt (aI (f:=fI) (q':=((F2 u+pt.length:Nat):Int)) rfl rfl rfl rfl Zk rfl Z8 Zg Jc rfl rfl Jb) ?_;rintro _ _ ⟨rfl,rfl⟩);rw[iD _ _ zb,yx];refine iC ?_;refine Ee ((k+1,D2++[((u:Int),pt.length)])) ?_ ?_
         ·refine⟨⟨by dsimp only;omega, ?_⟩,yz⟩;dsimp only;rw[sS];have h9:qI [((u:Int),pt.length)]=pt.length:=rfl;omega
         ·dsimp only;omega
        ·rw[Jf zu] at zx;rw[zx] at zy;generalize (iW cs ps (i:Int) (k:Int) (ux,uy)).2=pe at*;generalize (iW cs ps (i:Int) (k:Int) (ux,uy)).1=pt at*;(refine YQ ?_;intro b);exact Ea (x:=bad pe zu zy)
      ·have yv:k=(pI l).length:=Z8
       subst yv;rw[List.drop_length,fQ] at zx;rw[zx] at zy;simp only[ej,ke] at zy;rw[acU] at zy;refine bM ?_;refine Ee ((i+1,D++[((c:Int),l.length)]++D2)) ?_ ?_
       ·refine⟨⟨by dsimp only;omega, ?_⟩, ?_⟩
        ·dsimp only;rw[sS,sS];have h9:qI [((c:Int),l.length)]=l.length:=rfl;omega
        ·dsimp only;rw[zy,fu];rfl
       ·dsimp only;omega
   ·have zj:i=48:=Z8
    subst zj;have e1:at'.drop 48=[]:=adh Z8;rw[e1] at zy;have zh:its cs ps at' aA 0=some D:=by rw[zy,PB];simp
    refine bM ?_;exact Ea (x:=mM D q1 zh)
  ·have M0:=aaA (.slice qa at'.length ca2) (.slice qg aA.length cg) hw hm;(refine Ye Tryz.func48 Tryz.ntmps48 ?_;intro Fr);(repeat' (first|refine Y3 ?_|(refine Wb ?_;intro b)|refine Wc (C0 ..) ?_|refine Wc (M0 ..) ?_|fail));exact Ea (x:= .inr ⟨fun⟨L,h⟩=>hm h.2.1,4,Z9,rfl,rfl⟩)
 ·have hb: ¬ ∃ L,AS cs ps at' aA L:=fun⟨L,h⟩=>hd (vN h.1)
  generalize bZ cs ps=ce at*;(refine Ye Tryz.func48 Tryz.ntmps48 ?_;intro Fr);(repeat' (first|refine Y3 ?_|(refine Wb ?_;intro b)|refine Wc (C0 ..) ?_|fail));exact Ea (x:= .inr ⟨hb,ce,hd,rfl,rfl⟩)
end use
namespace fs
open bA dZ cO cK use
structure FD where
 a:Option Addr
 ca:Nat
 cs:List ByteArray
 w:Option Addr
 cw:Nat
 ps:List (Int×ByteArray)
 m:Option Addr
 cm:Nat
 at':List (Int×Int)
 g:Option Addr
 cg:Nat
 aA:List Int
def bC (b:Nat) (d:FD) (s t f o:Value):Ent:=box b [.slice d.a d.cs.length d.ca, .slice d.w d.ps.length d.cw, .slice d.m d.at'.length d.cm, .slice d.g d.aA.length d.cg,s,t,f,o] 136
instance {b:Nat} {d:FD} {s t f o:Value} {L:List Ent} [h:XL L]:XL (bC b d s t f o::L):=by unfold bC;infer_instance
def aX (d:FD):List Ent:=[sl 1 (.slice d.a d.cs.length d.ca) (d.cs.map fS),sl 2 (.slice d.w d.ps.length d.cw) (d.ps.map fP),sl 2 (.slice d.m d.at'.length d.cm) (d.at'.map jP),sl 1 (.slice d.g d.aA.length d.cg) (d.aA.map fI)]
structure Told (d:FD) (i:Nat) (l:List UInt8):Prop where
 mM:bA.Good d.cs d.ps
 map:eT d.at' d.aA
 lt:i<48
 ex: ∃ p g,d.at'[i]? =some p∧d.aA[i]? =some g∧p.1≠0∧nY d.cs d.ps p g (i:Int)=some l
attribute [local irreducible] box own sl bL aH bJ Qt cN cM dG dL eQ
theorem adA (b:Nat) (d:FD) (s t f o:Value) (i:Nat) {l:List UInt8} (h:Told d i l):
  Ct lk 147 [aH b 0, .int .i64 (i:Int)] (bC b d s t f o::aX d) fun v H'=> ∃ q c,v= .tuple #[.agg #[.int .i64 (kI l), .int .i64 (gI l), .int .i64 (zI l), .slice q (pI l).length c], .int .i64 0]∧H'=[bC b d s t f o,own (.slice q (pI l).length c) 77 2 (pI l).length (flat jP (pI l))]:=by
 obtain⟨hg,hm,hlt,p,g,hp,zy,h0,zx⟩:=h;obtain⟨a,ca,cs,w,cw,ps,m,cm,at',qg,cg,aA⟩:=d;dsimp only at hg hm hp zy zx;have hal:=hm.1;have I0:=agY (a:=a) (w:=w) (qa:=m) (qg:=qg) (ca:=ca) (cw:=cw) (ca2:=cm) (cg:=cg) hp zy Z8 hg zx;unfold bC aX;dsimp only;(refine Ye Tryz.func147 Tryz.ntmps147 ?_;intro Fr);(refine bD ?_;intro b);(refine aD (Hq:=[_,_,_,_,_]) [1,2,3,4,5] [] rfl Jd Za ?_);refine dP ?_;(refine aB 9 ?_;refine cD 14 Jd ?_ ?_)
 ·(refine Cd 9 (I0) ?_;rintro _ _ ⟨_,⟨q5,c5,rfl,rfl⟩,rfl⟩;refine Te ?_;(try refine Da ?_));(refine fH ?_;intro b);exact Ea (x:=⟨q5,c5,rfl,rfl⟩)
 ·(refine Oc (l:=by exact gV rfl) (k:= ?_);rintro _ _ ⟨b5,rfl,rfl⟩;refine Te ?_;(try refine Da ?_));refine dP ?_;(refine Cc 9 (I0) ?_;rintro _ _ ⟨_,⟨q5,c5,rfl,rfl⟩,rfl⟩;refine Te ?_;(try refine Da ?_));refine aF ?_;exact Ea (x:=⟨q5,c5,rfl,rfl⟩)
end fs
