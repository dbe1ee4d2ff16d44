/- Law HandStale: its texts, packed. -/
import Derived.Test.YtbjalbcdbgcgdaaGreatRows
import Derived.Test.YtbjalbcdbgcgdaaGreatK00
import Derived.Test.YtbjalbcdbgcgdaaGreatK08
import Derived.Test.YtbjalbcdbgcgdaaGreatK07
open List renaming cons_append->jg,getElem?_eq_getElem->aj,getElem?_eq_some_iff->ah,length_cons->fb,mem_of_getElem?->jm,take_append_drop->il,take_length->jb
open Nat renaming add_assoc->bw,add_mul->an,add_zero->dm,div_lt_of_lt_mul->jv,le_of_lt->jy,le_refl->aq,le_trans->ae,lt_of_le_of_lt->jq,lt_of_lt_of_le->ab,mul_add->jx,mul_assoc->ig,mul_comm->ej,mul_le_mul_left->jw,mul_zero->jz,pow_add->ju,pow_le_pow_right->ib,pow_succ->gu,zero_le->fg
open Int renaming ofNat_lt->j0,toNat_natCast->fq
open UInt8 renaming ofNat->gl
set_option linter.unusedVariables false
set_option maxRecDepth 100000
set_option maxHeartbeats 8000000
namespace Go.Proofs.YtbjalbcdbgcgdaaGreat.bits
open Go.RowKit bG
def pW (l:List UInt8):Nat:=l.foldr (fun b r=>b.toNat+256*r) 0
theorem zY:pW []=0:=rfl
theorem lK (b:UInt8) (l:List UInt8):pW (b::l)=b.toNat+256*pW l:=rfl
theorem LA (a b:List UInt8):pW (a++b)=pW a+256^a.length*pW b:=by
 induction a with
 |nil=>simp [zY]
 |cons x a ih=>rw[jg,lK,lK,ih,fb,gu,jx, ←ig,ej 256 (256^a.length)];omega
theorem aEE (l:List UInt8):pW l<256^l.length:=by
 induction l with
 |nil=>simp [zY]
 |cons x l ih=>rw[lK,fb,gu];have:=x.toNat_lt;omega
structure gF (w:World) (B g:Nat) (sv:Value) (bs:List UInt8) (held n:Nat):Prop where
 hg:w.heap[g]? =some (.cells #[sv, .int .u64 (held:Int), .int .i64 (n:Int)] 425 (0,0))
 own:w.ownsRow B 5 1 sv bs.length (aP bs)
 hB:B≤g
section
variable {w w':World} {B g:Nat} {sv:Value} {bs:List UInt8} {held n:Nat}
theorem gF.c0 (h:gF w B g sv bs held n):w.cell? ⟨g,0,none⟩=some sv:=by rw[cell_of_row _ _ _ _ _ _ h.hg];rfl
theorem gF.c1 (h:gF w B g sv bs held n):w.cell? ⟨g,1,none⟩=some (.int .u64 (held:Int)):=by rw[cell_of_row _ _ _ _ _ _ h.hg];rfl
theorem gF.c2 (h:gF w B g sv bs held n):w.cell? ⟨g,2,none⟩=some (.int .i64 (n:Int)):=by rw[cell_of_row _ _ _ _ _ _ h.hg];rfl
theorem gF.fr (h:gF w B g sv bs held n) (j:Nat):w.frozen? ⟨g,j,none⟩=false:=frozen_of_row _ _ j _ _ h.hg
theorem gF.lt (h:gF w B g sv bs held n):g<w.heap.size:=(Array.getElem?_eq_some_iff.1 h.hg).1
theorem gF.ne (h:gF w B g sv bs held n):sv.ownBlock≠some g:=by
 intro e;rcases h.own.2 with⟨rfl,_⟩|⟨g',cap,cur,rfl,_,hg',_⟩
 ·simp [Value.ownBlock] at e
 ·simp [Value.ownBlock] at e;subst e;rw[h.hg] at hg';simp at hg'
theorem uE (h:w.ownsRow B 5 1 sv bs.length (aP bs)) (hne:sv.ownBlock≠some g) (j:Nat) (u:Value):(w.setCell ⟨g,j,none⟩ u).ownsRow B 5 1 sv bs.length (aP bs):=by
 refine⟨h.1, ?_⟩;rcases h.2 with h2|⟨g',cap,cur,rfl,hb,hg',r⟩
 ·exact .inl h2
 ·refine .inr ⟨g',cap,cur,rfl,hb, ?_,r⟩;rw[heap_setCell_other _ _ _ _ (by simp [Value.ownBlock] at hne;simpa using hne)];exact hg'
theorem gF.aGP (h:gF w B g sv bs held n) (held':Nat):gF (w.setCell ⟨g,1,none⟩ (.int .u64 (held':Int))) B g sv bs held' n:=
 ⟨by rw[heap_setCell_same _ _ _ _ _ _ h.hg];rfl,uE h.own h.ne _ _,h.hB⟩
theorem gF.aGQ (h:gF w B g sv bs held n) (n':Nat):gF (w.setCell ⟨g,2,none⟩ (.int .i64 (n':Int))) B g sv bs held n':=
 ⟨by rw[heap_setCell_same _ _ _ _ _ _ h.hg];rfl,uE h.own h.ne _ _,h.hB⟩
theorem gF.aGR (h:gF w B g sv bs held n) {sv':Value} {bs':List UInt8} (hgr:w.grownBy w' sv.ownBlock) (hown:w'.ownsRow B 5 1 sv' bs'.length (aP bs')):gF (w'.setCell ⟨g,0,none⟩ sv') B g sv' bs' held n:=by
 have hg':w'.heap[g]? =some (.cells #[sv, .int .u64 (held:Int), .int .i64 (n:Int)] 425 (0,0)):=(hgr.block g h.lt (fun e=>h.ne e.symm)).trans h.hg;have hne:sv'.ownBlock≠some g:=by
  intro e;rcases hown.2 with⟨rfl,_⟩|⟨g',cap,cur,rfl,_,hg2,_⟩
  ·simp [Value.ownBlock] at e
  ·simp [Value.ownBlock] at e;subst e;rw[hg'] at hg2;simp at hg2
 exact⟨by rw[heap_setCell_same _ _ _ _ _ _ hg'];rfl,uE hown hne _ _,h.hB⟩
theorem gF.asX (h:gF w B g sv bs held n) (hgr:w.grownBy w' sv.ownBlock):w'.heap[g]? =some (.cells #[sv, .int .u64 (held:Int), .int .i64 (n:Int)] 425 (0,0)):=(hgr.block g h.lt (fun e=>h.ne e.symm)).trans h.hg
theorem gF.gc (h:gF w B g sv bs held n) (hgr:w.grownBy w' sv.ownBlock):w'.cell? ⟨g,0,none⟩=some sv:=by rw[cell_of_row _ _ _ _ _ _ (h.asX hgr)];rfl
theorem gF.gf (h:gF w B g sv bs held n) (hgr:w.grownBy w' sv.ownBlock):w'.frozen? ⟨g,0,none⟩=false:=frozen_of_row _ _ 0 _ _ (h.asX hgr)
theorem gF.drew (h:gF w B g sv bs held n):gF w.drew B g sv bs held n:=⟨h.hg,h.own.drew,h.hB⟩
theorem gF.alloc (h:gF w B g sv bs held n) (o:Obj):gF (w.alloc o) B g sv bs held n:=⟨by rw[heap_alloc_old w o h.lt];exact h.hg,h.own.alloc o,h.hB⟩
end
def nOf (w:World) (g:Nat):Nat:=(intOf ((w.cell? ⟨g,2,none⟩).getD undef)).toNat
def aGS (bs:List UInt8) (held n v w:Nat) (bs':List UInt8) (held' n':Nat):Prop:=
 n'<8∧held'<2^n'∧pW bs'+held'*256^bs'.length=pW bs+held*256^bs.length+v*2^(8*bs.length+n)∧8*bs'.length+n'=8*bs.length+n+w
theorem asY (held n v:Nat) (hn:n<8) (hh:held<2^n) (hv:v<4294967296):bits BinOp.or IntKind.u64 (held:Int) (IntKind.u64.wrap ((v:Int)*2^n))=((held+v*2^n:Nat):Int):=by
 have h1:(2:Nat)^n≤2^7:=ib (by decide) (by omega);have h2:v*2^n≤v*2^7:=jw _ h1;have e:IntKind.u64.wrap ((v:Int)*2^n)=((v*2^n:Nat):Int):=by
  rw[IntKind.wrap_u64,show ((v:Int)*2^n)=((v*2^n:Nat):Int) from by simp];omega
 rw[e,u64_or_nat _ _ (by omega) (by omega)];congr 1;rw[Nat.or_comm,nat_join n (v*2^n) held (Nat.mul_mod_left _ _) hh];omega
def zZ (v wd held n B g:Nat) (sv:Value) (bs:List UInt8) (W:World):Prop:=
  Calls Tryz.prog 341 #[.pointer (some ⟨g,0,none⟩), .int .u64 (v:Int), .int .i64 (wd:Int)] W fun e w'=>e= .returned (.tuple #[])∧Below B W w'∧ ∃ sv' bs' held' n',gF w' B g sv' bs' held' n'∧aGS bs held n v wd bs' held' n'
theorem aGT (v:Nat) (hv:v<18446744073709551616):bits BinOp.and IntKind.u64 (v:Int) 4294967295=((v%4294967296:Nat):Int):=by
 rw[show (4294967295:Int)=((2^32-1:Nat):Int) from rfl,u64_and_nat _ _ hv (by decide),Nat.and_two_pow_sub_one_eq_mod]
theorem aiE (v0 wd0 held0 n0 B g:Nat) (sv0:Value) (bs0:List UInt8) (W0:World) (hs0:gF W0 B g sv0 bs0 held0 n0) (hn0:n0<8) (hh0:held0<2^n0) (hw0:wd0≤64) (hv0:v0<2^wd0) (L:Nat) (hL:L≤999950) (hlen0:bs0.length≤L)
  (hrec:32<wd0→ ∀ (v held n:Nat) (sv:Value) (bs:List UInt8) (W:World),gF W B g sv bs held n→n<8→held<2^n→v<2^32→bs.length≤L+10→zZ v 32 held n B g sv bs W):
  zZ v0 wd0 held0 n0 B g sv0 bs0 W0:=by
 unfold zZ;have HR:=Lib.hid hrec;clear hrec;have HV0:=Lib.hid hv0;have HH0:=Lib.hid hh0;obtain⟨CT,hCT⟩: ∃ CT,CT=pW bs0+held0*256^bs0.length+v0*2^(8*bs0.length+n0):=⟨_,rfl⟩;have HCT:=Lib.hid hCT;clear hv0 hh0 hCT
 go_enter Tryz.func341,Tryz.ntmps341
 go_wp2_with (fail)
 go_loopw [1, 2] (fun x y wr => ∃ v wd sv bs held n, x = .int .u64 ((v : Nat) : Int) ∧ y = .int .i64 ((wd : Nat) : Int) ∧ wd ≤ wd0 ∧ Hid (v < 2 ^ wd) ∧ gF wr B g sv bs held n ∧ n < 8 ∧ Hid (held < 2 ^ n) ∧
   Hid (pW bs + held * 256 ^ bs.length + v * 2 ^ (8 * bs.length + n) = CT) ∧ 8 * bs.length + n + wd = 8 * bs0.length + n0 + wd0 ∧ Below B W0 wr) (fun _ y _ => (intOf y).toNat)
 case atStart=>exact⟨v0,wd0,sv0,bs0,held0,n0,rfl,rfl,aq _,HV0,hs0,hn0,HH0,HCT.out.symm,rfl,Below.refl _ _⟩
 case round=>
 clear hs0;obtain⟨v,wd,sv,bs,held,n,rfl,rfl,hwd,HV,hs,hn,HH,HC0,hTT,hb0⟩:=hrel;by_cases hw:32<wd
 ·have hwI:(32:Int)<(wd:Int):=by omega
  have hv64:v<18446744073709551616:=ab HV.out (ib (n:=2) (by decide) (show wd≤64 by omega));have hl32:=aGT v hv64;obtain⟨lo,hlo⟩: ∃ lo,lo=v%4294967296:=⟨_,rfl⟩;rw[←hlo] at hl32;have hlo2:lo<2^32:=by rw[hlo];exact Nat.mod_lt _ (by decide)
  have HL:=Lib.hid hlo;have HL2:=Lib.hid hlo2;clear hlo hlo2
  go_wp2_with (fail)
  refine (HR.out (by omega) lo held n sv bs _ hs hn HH.out HL2.out (by omega) ).mono ?_;rintro e w1 ⟨rfl,hb1,sv1,bs1,held1,n1,hs1,hn1,hh1,hN1,hT1⟩;have HN1:=Lib.hid hN1;have HH1:=Lib.hid hh1;have hbz:=hb0.trans hb1;clear hN1 hh1 hs hb1 hb0
  go_wp2_with (fail)
  go_roundw
  case rel=>
   refine⟨v/4294967296,wd-32,sv1,bs1,held1,n1,lA (by omega),lA (by omega),by omega, ?_,hs1,hn1,HH1, ?_,by omega,hbz⟩
   ·show v/4294967296<2^(wd-32);have:=HV.out;rw[show wd=32+(wd-32) from by omega,ju] at this;exact jv this
   ·show _=CT;rw[HN1.out, ←HC0.out,HL.out,show 8*bs1.length+n1=8*bs.length+n+32 from by omega,ju 2 (8*bs.length+n) 32];have e:v=v%4294967296+4294967296*(v/4294967296):=by omega
    have e2:v%4294967296*2^(8*bs.length+n)+v/4294967296*(2^(8*bs.length+n)*2^32)=v*2^(8*bs.length+n):=by
     rw[ej (2^(8*bs.length+n)) (2^32), ←ig, ←an];congr 1;omega
    rw[bw (pW bs+held*256^bs.length),e2]
  case measure=>simp [intOf];omega
 ·have hv64:True:=trivial;have hv32:v<4294967296:=ab HV.out (ib (n:=2) (by decide) (show wd≤32 by omega));have hor:=asY held n v hn HH.out hv32;obtain⟨X,hX⟩: ∃ X,X=held+v*2^n:=⟨_,rfl⟩;rw[←hX] at hor;have HOR:=Lib.hid hor;have HX:=Lib.hid hX;clear hor hX;have hwI:(wd:Int)≤32:=by omega
  have c0:=hs.c0;have c1:=hs.c1;have c2:=hs.c2;have f1:=hs.fr 1;have hnI:(n:Int)<8:=by omega
  have hlt:=hs.lt;have hlen:bs.length≤1000000:=by omega
  go_wp2_with (fail)
  go_region
  rw[HOR.out];have hs1:=(hs.aGP X).drew;have hb1:Below B W0 (wr.setCell ⟨g,1,none⟩ (.int .u64 (X:Int))).drew:=(hb0.setCell (p:=⟨g,1,none⟩) hs.hB _).drew;generalize (wr.setCell ⟨g,1,none⟩ (.int .u64 (X:Int))).drew=W1 at hs1 hb1 ⊢;clear c0 c1 c2 f1;have c0:=hs1.c0;have c1:=hs1.c1;have c2:=hs1.c2;have f2:=hs1.fr 2
  go_wp2_with (fail)
  have e2:(n:Int)+(wd:Int)=((n+wd:Nat):Int):=by omega
  have hs2:=hs1.aGQ (n+wd);rw[←e2] at hs2;have hb2:=hb1.setCell (p:=⟨g,2,none⟩) hs1.hB (.int .i64 ((n:Int)+(wd:Int)));generalize W1.setCell ⟨g,2,none⟩ (.int .i64 ((n:Int)+(wd:Int)))=W2 at hs2 hb2 ⊢;have hT:X<2^(n+wd):=by
   have hh:=HH.out;rw[HX.out,ju,ej (2^n)];have:(v+1)*2^n≤2^wd*2^n:=Nat.mul_le_mul_right _ HV.out;rw[Nat.succ_mul] at this;omega
  have hN0:pW bs+X*256^bs.length=pW bs+held*256^bs.length+v*2^(8*bs.length+n):=by
   rw[HX.out,an,show (256:Nat)=2^8 from rfl, ←Nat.pow_mul,ig, ←ju,Nat.add_comm n];omega
  clear c0 c1 c2 f2 e2;obtain⟨C,hC⟩: ∃ C,C=pW bs+held*256^bs.length+v*2^(8*bs.length+n):=⟨_,rfl⟩;rw[←hC] at hN0;have HC:=Lib.hid hC;have HN:=Lib.hid hN0;have HT:=Lib.hid hT;clear hC hN0 hT
  go_loopw [37] (fun _ wr=> ∃ sv' bs' held' n',gF wr B g sv' bs' held' n'∧Hid (held'<2^n')∧n'≤47∧Hid (pW bs'+held'*256^bs'.length=C)∧8*bs'.length+n'=8*bs.length+n+wd∧Below B W0 wr) (fun _ wr=>nOf wr g)
  case atStart=>exact⟨sv,bs,_,n+wd,by simpa using hs2,HT,by omega,HN,by omega,hb2⟩
  case round=>
   clear hs hs1 hb1 hs2 hb2 HT HN;obtain⟨sv',bs',held',n',hs,hh',hn47,hN,hT,hb⟩:=hrel;have c0:=hs.c0;have c1:=hs.c1;have c2:=hs.c2;have f0:=hs.fr 0;have hnOld:wr.cell? ⟨g,2,none⟩=some (.int .i64 (n':Int)):=c2;by_cases h8:8≤n'
   ·have h8I:(8:Int)≤(n':Int):=by omega
    have hne:=hs.ne;have hlen':bs'.length≤2000000:=by omega
    have h63:bs'.length+1≤maxLen:=by unfold maxLen;omega
    have hsz:B≤wr.heap.size:=jy (jq hs.hB hs.lt)
    go_wp2_with (fail)
    have hglt:=hs.lt
    go_region_law (refine JG put.pU (by rfl) _ _ (by rfl) sv' (Value.int .u8 (IntKind.u8.wrap (held':Int))) bs'.length (aP bs') (by rfl) ⟨wr.heap.size,0,none⟩ (by rfl) (by simp) ((hs.own.alloc _).drew) (by rfl) (by omega) h63 ((hb.alloc hsz _).drew) (ae hsz (by simp)) ?_;intro gv capv w1 hown1 hgr1 hbel1 _ _;have hs3:=(hs.alloc (Obj.cells #[Value.int .u8 (IntKind.u8.wrap (held':Int))] 5)).drew;have cz:=hs3.gc hgr1;have fz:=hs3.gf hgr1)
    all_goals
     have hb8:IntKind.u8.wrap (held':Int)=((gl (held'%256)).toNat:Int):=by rw[IntKind.wrap_u8'];simp
     rw[eI bs' (gl (held'%256)) _ hb8] at hown1;have hs4:=hs3.aGR hgr1 (bs':=bs'++[gl (held'%256)]) (by simpa using hown1);have hb4:=hbel1.setCell (p:=⟨g,0,none⟩) hs.hB (.slice (some ⟨gv,0,none⟩) (bs'.length+1) capv);generalize w1.setCell ⟨g,0,none⟩ (.slice (some ⟨gv,0,none⟩) (bs'.length+1) capv)=w2 at hs4 hb4 ⊢;clear c0 c1 c2 f0 hown1 hgr1 hs3 cz fz hb8 hbel1 hs;have c1:=hs4.c1;have f1:=hs4.fr 1
     go_upto_region 9 with (fail)
     have e1:(held':Int)/256=((held'/256:Nat):Int):=by omega
     have hs5:=hs4.aGP (held'/256);rw[←e1] at hs5;have hb5:=hb4.setCell (p:=⟨g,1,none⟩) hs4.hB (.int .u64 ((held':Int)/256));generalize w2.setCell ⟨g,1,none⟩ (.int .u64 ((held':Int)/256))=w3 at hs5 hb5 ⊢;clear c1 f1 hs4 hb4 e1;have c2:=hs5.c2;have f2:=hs5.fr 2;have e3:(n':Int)-8=((n'-8:Nat):Int):=by omega
     have hs6:=hs5.aGQ (n'-8);rw[←e3] at hs6;have hb6:=hb5.setCell (p:=⟨g,2,none⟩) hs5.hB (.int .i64 ((n':Int)-8));have hno:nOf (w3.setCell ⟨g,2,none⟩ (.int .i64 ((n':Int)-8))) g=n'-8:=by rw[nOf,hs6.c2];simp [intOf]
     have HS6:=Lib.hid hs6;have HB6:=Lib.hid hb6;have HNO:=Lib.hid hno;clear hs6 hb6 hno e3
     go_wp2_with (fail)
     go_roundw
     case rel=>
      have hh2:held'/256<2^(n'-8):=by
       have:=hh'.out;rw[show n'=(n'-8)+8 from by omega,ju] at this;exact jv (by rw[ej];exact this)
      refine⟨_,bs'++[gl (held'%256)],held'/256,n'-8,by simpa using HS6.out,hh2,by omega, ?_,by simp;omega,HB6.out⟩;show _=_;rw[←hN.out,LA,List.length_append,List.length_singleton,gu,lK,zY];have e:(gl (held'%256)).toNat=held'%256:=by simp
      rw[e,jz,dm,bw,ej (256^bs'.length) (held'%256),ej (256^bs'.length) 256, ←ig, ←an];congr 2;omega
     case measure=>
      show nOf _ g<nOf _ g;rw[HNO.out,nOf,hnOld];simp [intOf];omega
   ·have hend:n'<8:=by omega
    go_wp2_with (fail)
    go_end0
    refine⟨rfl,hb,sv',bs',held',n',hs,hend,hh'.out, ?_,by omega⟩;rw[hN.out,HC.out,HC0.out,HCT.out]
theorem aGU (v held n B g:Nat) (sv:Value) (bs:List UInt8) (W:World) (hs:gF W B g sv bs held n) (hn:n<8) (hh:held<2^n) (hv:v<2^32) (hlen:bs.length≤999010):zZ v 32 held n B g sv bs W:=
 aiE v 32 held n B g sv bs W hs hn hh (by decide) hv 999010 (by decide) hlen (fun h=>absurd h (by decide))
theorem mM (v wd held n B g:Nat) (sv:Value) (bs:List UInt8) (W:World) (hs:gF W B g sv bs held n) (hn:n<8) (hh:held<2^n) (hw:wd≤64) (hv:v<2^wd) (hlen:bs.length≤999000):zZ v wd held n B g sv bs W:=
 aiE v wd held n B g sv bs W hs hn hh hw hv 999000 (by decide) hlen (fun _ v held n sv bs W hs hn hh hv hl=>aGU v held n B g sv bs W hs hn hh hv hl)
end Go.Proofs.YtbjalbcdbgcgdaaGreat.bits
namespace Go.Proofs.YtbjalbcdbgcgdaaGreat.bits
open Go.RowKit bG
def alZ (bs:List UInt8) (held n:Nat):List UInt8:=if n=0 then bs else bs++[gl held]
theorem aiF (held n B g:Nat) (sv:Value) (bs:List UInt8) (W:World) (hs:gF W B g sv bs held n) (hn:n<8) (hh:held<2^n) (hlen:bs.length≤2000000):
  Calls Tryz.prog 342 #[.pointer (some ⟨g,0,none⟩)] W fun e w'=>e= .returned (.string ⟨(alZ bs held n).toArray⟩)∧Below B W w':=by
 have c0:=hs.c0;have c1:=hs.c1;have c2:=hs.c2;have f0:=hs.fr 0;have hlt:=hs.lt;have hh256:held<256:=ab hh (ib (n:=2) (by decide) (by omega:n≤8));have HH:=Lib.hid hh;clear hh;by_cases h0:n=0
 ·have H0:=Lib.hid h0;have hI: ¬ (0:Int)<(n:Int):=by omega
  have hconv:=kA (src:=292) (dst:=9) Tryz.underlying292 Tryz.underlying5 Tryz.underlying9 hs.own;clear h0
  go_enter Tryz.func342,Tryz.ntmps342
  go_wp2_with (fail)
  go_ret
  exact⟨by rw[alZ,if_pos H0.out];rfl,Below.refl _ _⟩
 ·have H0:=Lib.hid h0;have hI:(0:Int)<(n:Int):=by omega
  have h63:bs.length+1≤maxLen:=by unfold maxLen;omega
  have hsz:B≤W.heap.size:=jy (jq hs.hB hs.lt);clear h0
  go_enter Tryz.func342,Tryz.ntmps342
  go_upto_region 2 with (fail)
  go_region_law (refine JG put.pU (by rfl) _ _ (by rfl) sv (Value.int .u8 (IntKind.u8.wrap (held:Int))) bs.length (aP bs) (by rfl) ⟨W.heap.size,0,none⟩ (by rfl) (by simp) ((hs.own.alloc _).drew) (by rfl) (by omega) h63 ((((Below.refl B W)).alloc hsz _).drew) (ae hsz (by simp)) ?_;intro gv capv w1 hown1 hgr1 hbel1 _ _;have hs3:=(hs.alloc (Obj.cells #[Value.int .u8 (IntKind.u8.wrap (held:Int))] 5)).drew;have cz:=hs3.gc hgr1;have fz:=hs3.gf hgr1)
  all_goals
   have hb8:IntKind.u8.wrap (held:Int)=((gl held).toNat:Int):=by rw[IntKind.wrap_u8'];simp
   rw[eI bs (gl held) _ hb8] at hown1;have hs4:=hs3.aGR hgr1 (bs':=bs++[gl held]) (by simpa using hown1);have hb4:=hbel1.setCell (p:=⟨g,0,none⟩) hs.hB (.slice (some ⟨gv,0,none⟩) (bs.length+1) capv);generalize w1.setCell ⟨g,0,none⟩ (.slice (some ⟨gv,0,none⟩) (bs.length+1) capv)=w2 at hs4 hb4 ⊢;clear c0 c1 c2 f0 hown1 hgr1 hs3 cz fz hb8 hbel1 hs;have c0:=hs4.c0;have hconv:=kA (src:=292) (dst:=9) Tryz.underlying292 Tryz.underlying5 Tryz.underlying9 hs4.own
   go_wp2_with (fail)
   go_ret
   exact⟨by rw[alZ,if_neg H0.out];rfl,hb4⟩
def iB (p:Int×Int):Nat:=if p.2<0∨64<p.2 then 1 else if p.1<2^p.2.toNat then 0 else 2
def cO:List (Int×Int)→Nat
 |[]=>0
 |p::l=>if iB p=0 then cO l else iB p
def total:List (Int×Int)→Nat
 |[]=>0
 |p::l=>p.2.toNat+total l
def kF:List (Int×Int)→Nat
 |[]=>0
 |p::l=>p.1.toNat+2^p.2.toNat*kF l
def toLE:Nat→Nat→List UInt8
 |_,0=>[]
 |N,n+1=>gl (N%256)::toLE (N/256) n
def iV (l:List (Int×Int)):Nat:=if cO l≠0 then cO l else if 65536<total l then 2 else 0
def iG (l:List (Int×Int)):List UInt8:=toLE (kF l) ((total l+7)/8)
theorem ZC (N n:Nat):(toLE N n).length=n:=by
 induction n generalizing N with
 |zero=>rfl
 |succ n ih=>simp [toLE,ih]
theorem asZ (N n:Nat):pW (toLE N n)=N%256^n:=by
 induction n generalizing N with
 |zero=>simp [toLE,zY,Nat.mod_one]
 |succ n ih=>
  rw[toLE,lK,ih,gu,ej (256^n) 256,Nat.mod_mul];simp
theorem ZD (l:List UInt8):toLE (pW l) l.length=l:=by
 induction l with
 |nil=>rfl
 |cons b l ih=>
  have hb:=b.toNat_lt;rw[fb,toLE,lK,show (b.toNat+256*pW l)/256=pW l from by omega,ih,show (b.toNat+256*pW l)%256=b.toNat from by omega];simp
theorem AA (a b:List (Int×Int)):cO (a++b)=if cO a=0 then cO b else cO a:=by
 induction a with
 |nil=>simp [cO]
 |cons p a ih=>
  rw[jg,cO,cO];by_cases h:iB p=0
  ·rw[if_pos h,if_pos h,ih]
  ·rw[if_neg h,if_neg h,if_neg h]
theorem RJ (a b:List (Int×Int)):total (a++b)=total a+total b:=by
 induction a with
 |nil=>simp [total]
 |cons p a ih=>rw[jg,total,total,ih];omega
theorem amA (a b:List (Int×Int)):kF (a++b)=kF a+2^total a*kF b:=by
 induction a with
 |nil=>simp [kF,total]
 |cons p a ih=>rw[jg,kF,kF,total,ih,jx,ju,ig];omega
theorem atA (l:List (Int×Int)) (hp: ∀ p∈l,0≤p.1) (h:cO l=0):kF l<2^total l:=by
 induction l with
 |nil=>simp [kF,total]
 |cons p l ih=>
  unfold cO at h;split at h
  ·rename_i h0;have hi:=ih (fun q hq=>hp q (by simp [hq])) h;have hp1:p.1.toNat<2^p.2.toNat:=by
    unfold iB at h0;split at h0
    ·omega
    ·split at h0
     ·rename_i h2;have:=hp p (by simp);have e:((2:Int)^p.2.toNat)=((2^p.2.toNat:Nat):Int):=by simp
      rw[e] at h2;omega
     ·omega
   rw[kF,total,ju];have:2^p.2.toNat*(kF l+1)≤2^p.2.toNat*2^total l:=jw _ hi;rw[jx,Nat.mul_one] at this;omega
  ·rename_i h0;exact absurd h h0
def alK (p:Int×Int):List Value:=[Value.int .u64 p.1,Value.int .i64 p.2]
theorem xO {xs:List (Int×Int)} {k:Nat} {p:Int×Int} (hp:xs[k]? =some p) (h0:cO (xs.take k)=0) {e:Nat} (he:iB p=e) (hn:e≠0):iV xs=e:=by
 have e1:xs=xs.take k++(p::xs.drop (k+1)):=by
  conv=>lhs;rw[←il k xs]
  rw[List.drop_eq_getElem_cons (ah.1 hp).1,(ah.1 hp).2]
 have:cO xs=e:=by
  rw[e1,AA,if_pos h0,cO,if_neg (by rw[he];exact hn),he]
 rw[iV,if_pos (by rw[this];exact hn),this]
theorem wR {xs:List (Int×Int)} {k:Nat} {p:Int×Int} (hp:xs[k]? =some p) (h0:cO (xs.take k)=0) (he:iB p=0):cO (xs.take (k+1))=0:=by
 rw[take_one hp,AA,if_pos h0,cO,if_pos he];rfl
theorem LB {xs:List (Int×Int)} {k:Nat} {p:Int×Int} (hp:xs[k]? =some p):total (xs.take (k+1))=total (xs.take k)+p.2.toNat:=by
 rw[take_one hp,RJ];rfl
theorem adZ {xs:List (Int×Int)} {k:Nat} {p:Int×Int} (hp:xs[k]? =some p):kF (xs.take (k+1))=kF (xs.take k)+p.1.toNat*2^total (xs.take k):=by
 rw[take_one hp,amA,kF,kF,jz,dm,ej]
theorem pO (v w:Nat) (hw:w≤64):iB ((v:Int),(w:Int))=if v<2^w then 0 else 2:=by
 have e:((2:Int)^w)=((2^w:Nat):Int):=by simp
 unfold iB;rw[if_neg (by simp only;omega)];simp only[fq,e,j0]
theorem uF (v w:Int) (h:w<0∨64<w):iB (v,w)=1:=by
 unfold iB;rw[if_pos h]
theorem wS (l:List (Int×Int)) (k:Nat):total (l.take k)≤total l:=by
 conv=>rhs;rw[←il k l]
 rw[RJ];omega
theorem UX {l:List (Int×Int)} (h:cO l=0) {p:Int×Int} (hp:p∈l):iB p=0:=by
 induction l with
 |nil=>cases hp
 |cons q l ih=>
  unfold cO at h;split at h
  ·rename_i h0;rcases List.mem_cons.1 hp with rfl|hp
   ·exact h0
   ·exact ih h hp
  ·rename_i h0;exact absurd h h0
theorem ZE {v:Nat} {w:Int} (h:iB ((v:Int),w)=0): ∃ n:Nat,w=(n:Int)∧n≤64∧v<2^n:=by
 unfold iB at h;split at h
 ·omega
 ·rename_i h1;refine⟨w.toNat, ?_, ?_, ?_⟩
  ·simp only at h1;omega
  ·simp only at h1;omega
  ·split at h
   ·rename_i h2;have e:((2:Int)^w.toNat)=((2^w.toNat:Nat):Int):=by simp
    simp only[e,j0] at h2;exact h2
   ·omega
theorem amB {xs:List (Int×Int)} {bs:List UInt8} {held n:Nat} (hn:n<8) (hh:held<2^n) (h1:pW bs+held*256^bs.length=kF xs) (h2:8*bs.length+n=total xs):alZ bs held n=iG xs:=by
 have hh256:held<256:=ab hh (ib (n:=2) (by decide) (by omega:n≤8));unfold iG alZ;rw[←h2, ←h1];split
 ·rename_i h0;subst h0;have:held=0:=by simpa using hh
  subst this;rw[show (8*bs.length+0+7)/8=bs.length from by omega,Nat.zero_mul,dm,ZD]
 ·have e:pW (bs++[gl held])=pW bs+held*256^bs.length:=by
   rw[LA,lK,zY];rw[show (gl held).toNat=held from by simp;omega,ej];simp
  rw[←e,show (8*bs.length+n+7)/8=(bs++[gl held]).length from by simp;omega,ZD]
def FJ (l:List (Int×Int)):ByteArray:=if iV l=0 then ⟨(iG l).toArray⟩ else ⟨#[]⟩
theorem atB (v:Value) (xs:List (Int×Int)) (W:World) (hs:bM W 2 v (xs.map alK)) (hg: ∀ p∈xs,(Lit.int .u64 p.1).wf=true∧(Lit.int .i64 p.2).wf=true) (hn:xs.length≤100000000000000000):
  Calls Tryz.prog 308 #[v] W fun e w'=>e= .returned (.tuple #[.string (FJ xs), .int .i64 (iV xs:Int)])∧Below W.heap.size W w':=by
 rcases hs with⟨h0,hv⟩|⟨b,off,cap,rfl,hcap,hmax,hpos,hblk,hrows⟩
 ·obtain rfl:xs=[]:=by simpa using h0
  obtain⟨q,cap,rfl⟩: ∃ q cap,v= .slice q 0 cap:=by
   rcases hv with rfl|⟨a,cap,rfl⟩
   ·exact⟨_,_,rfl⟩
   ·exact⟨_,_,rfl⟩
  clear hg hn h0 hv
  go_enter Tryz.func308,Tryz.ntmps308
  go_wp2_with (fail)
  go_loopw [4,12] (fun x y wr=>x= .int .i64 0∧y= .int .i64 0∧wr=W) (fun _ _ _=>0)
  case atStart=>exact⟨rfl,rfl,rfl⟩
  case round=>
   obtain⟨rfl,rfl,rfl⟩:=hrel
   go_wp2_with (fail)
   have hsk:gF (wr.alloc (Obj.cells #[Value.slice none 0 0,Value.int IntKind.u64 0,Value.int IntKind.i64 0] 425)) wr.heap.size wr.heap.size (.slice none 0 0) [] 0 0:=
    ⟨heap_alloc_new _ _,World.ownsRow_nil _ _ _ _,aq _⟩
   have hb2:=(Below.refl wr.heap.size wr).alloc (aq _) (Obj.cells #[Value.slice none 0 0,Value.int IntKind.u64 0,Value.int IntKind.i64 0] 425);generalize wr.alloc (Obj.cells #[Value.slice none 0 0,Value.int IntKind.u64 0,Value.int IntKind.i64 0] 425)=W2 at hsk hb2 ⊢;generalize hG:wr.heap.size=G at hsk hb2 ⊢
   replace hG:=Lib.hid hG
   go_loopw [44] (fun y ws=>y= .int .i64 0∧ws=W2) (fun _ _=>0)
   case atStart=>exact⟨rfl,rfl⟩
   case round=>
    obtain⟨rfl,rfl⟩:=hrel
    go_wp2_with (fail)
    refine (aiF 0 0 _ G _ [] _ hsk (by decide) (by decide) (by decide)).mono ?_;rintro e w' ⟨rfl,hb'⟩;have hb3:=hb2.trans hb'
    go_wp2_with (fail)
    go_ret2
    exact⟨rfl,by rw[hG.out];exact hb3⟩
 ·have hlen:(xs.map alK).length=xs.length:=by simp
  rw[hlen] at hcap hpos ⊢;have hcell: ∀ i p,xs[i]? =some p→W.cell? ⟨b,off+i*2,none⟩=some (.int .u64 p.1)∧W.cell? ⟨b,off+i*2+1,none⟩=some (.int .i64 p.2):=by
   intro i p hp;have h:=(hrows i (alK p) (by rw[List.getElem?_map,hp];rfl)).2;exact⟨h 0 _ rfl,h 1 _ rfl⟩
  have HC:=Lib.hid hcell;clear hrows hcell hlen
  go_enter Tryz.func308,Tryz.ntmps308
  go_wp2_with (fail)
  go_loopw [4,12] (fun x y wr=> ∃ k:Nat,k≤xs.length∧x= .int .i64 (total (xs.take k):Int)∧y= .int .i64 k∧Hid (cO (xs.take k)=0)∧total (xs.take k)≤64*k∧Below W.heap.size W wr) (fun _ y _=>xs.length-(intOf y).toNat)
  case atStart=>exact⟨0,fg _,rfl,rfl,rfl,by simp [total],Below.refl _ _⟩
  case round=>
   obtain⟨k,hk,rfl,rfl,hfe,htot,hb⟩:=hrel;by_cases hlt:k<xs.length
   ·obtain⟨⟨p1,p2⟩,hp⟩: ∃ p,xs[k]? =some p:=⟨_,aj hlt⟩;have hc:=HC.out k _ hp;have hc0:wr.cell? ⟨b,off+k*2,none⟩=some (.int .u64 p1):=(hb.cell (p:=⟨b,off+k*2,none⟩) hblk).trans hc.1;have hc1:wr.cell? ⟨b,off+k*2+1,none⟩=some (.int .i64 p2):=(hb.cell (p:=⟨b,off+k*2+1,none⟩) hblk).trans hc.2;have hltI:(k:Int)<(xs.length:Int):=by omega
    have hw:=hg _ (jm hp);obtain⟨v,rfl,hv⟩:=agU hw.1;have hp2:=CB hw.2;have HP:=Lib.hid hp;clear hc hp hw;have hsz:W.heap.size≤wr.heap.size:=hb.size;by_cases hneg:p2<0
    ·have hE:iV xs=1:=xO HP.out hfe.out (uF _ _ (.inl hneg)) (by decide)
     go_wp2_with (fail)
     go_ret2
     exact⟨by rw[FJ,if_neg Zl];rfl,hb.alloc hsz _⟩
    ·by_cases hbig:64<p2
     ·have hE:iV xs=1:=xO HP.out hfe.out (uF _ _ (.inr hbig)) (by decide)
      go_wp2_with (fail)
      go_ret2
      exact⟨by rw[FJ,if_neg Zl];rfl,hb.alloc hsz _⟩
     ·obtain⟨w,rfl⟩: ∃ w:Nat,p2=(w:Int):=⟨p2.toNat,by omega⟩;have hw:w≤64:=by omega
      have e2:((2:Int)^w)=((2^w:Nat):Int):=by simp
      have ht:=LB HP.out;simp only[fq] at ht;have HT:=Lib.hid ht;have hto:total (xs.take (k+1))≤64*(k+1):=by omega
      clear ht;by_cases h64:(w:Int)<64
      ·by_cases hq:((v:Int)/2^w !=0)=true
       ·have hE : iV xs = 2 := xO HP.out hfe.out (by
         rw [pO v w hw, if_neg];intro hlt;rw [e2, show (v : Int) / ((2 ^ w : Nat) : Int) = ((v / 2 ^ w : Nat) : Int) from rfl, Nat.div_eq_of_lt hlt] at hq;simp at hq) (by decide)
        clear e2 HT
        go_wp2_with (fail)
        go_ret2
        exact⟨by rw[FJ,if_neg Zl];rfl,hb.alloc hsz _⟩
       ·have hE := Lib.hid (wR HP.out hfe.out (by
         rw[pO v w hw,if_pos];simp at hq;rw[e2,show (v:Int)/((2^w:Nat):Int)=((v/2^w:Nat):Int) from rfl] at hq;rcases (Nat.div_eq_zero_iff.1 (by exact_mod_cast hq):2^w=0∨v<2^w) with h|h
         ·have:=Nat.two_pow_pos w;omega
         ·exact h))
        have hq2:((v:Int)/2^w !=0)=false:=by simpa using hq
        clear e2 hq
        go_wp2_with (fail)
        exact⟨⟨k+1,by omega,by rw[HT.out];simp,rfl,hE,hto,hb.alloc hsz _⟩,by show xs.length-(((k:Int)+1).toNat)<xs.length-((k:Int).toNat);omega⟩
      ·have:w=64:=by omega
       subst this;have hE:=Lib.hid (wR HP.out hfe.out (by rw[pO v 64 hw,if_pos (by omega)]));clear e2
       go_wp2_with (fail)
       exact⟨⟨k+1,by omega,by rw[HT.out];simp,rfl,hE,hto,hb.alloc hsz _⟩,by show xs.length-(((k:Int)+1).toNat)<xs.length-((k:Int).toNat);omega⟩
   ·have hke:k=xs.length:=by omega
    subst hke;rw[jb] at hfe htot ⊢;by_cases hT:(65536:Int)<(total xs:Int)
    ·have hE:iV xs=2:=by unfold iV;rw[hfe.out,if_neg (by simp),if_pos (by omega)]
     go_wp2_with (fail)
     go_ret2
     exact⟨by rw[FJ,if_neg Zl,hE];rfl,hb⟩
    ·have hE:iV xs=0:=by unfold iV;rw[hfe.out,if_neg (by simp),if_neg (by omega)]
     have HE:=Lib.hid hE;have hT2:total xs≤65536:=by omega
     have hsz:W.heap.size≤wr.heap.size:=hb.size;clear hE
     go_wp2_with (fail)
     have hsk:gF (wr.alloc (Obj.cells #[Value.slice none 0 0,Value.int IntKind.u64 0,Value.int IntKind.i64 0] 425)) W.heap.size wr.heap.size (.slice none 0 0) [] 0 0:=
      ⟨heap_alloc_new _ _,World.ownsRow_nil _ _ _ _,hsz⟩
     have hb2:=hb.alloc hsz (Obj.cells #[Value.slice none 0 0,Value.int IntKind.u64 0,Value.int IntKind.i64 0] 425);generalize wr.alloc (Obj.cells #[Value.slice none 0 0,Value.int IntKind.u64 0,Value.int IntKind.i64 0] 425)=W2 at hsk hb2 ⊢;generalize wr.heap.size=G at hsk ⊢;clear hb hsz hlt hT
     go_loopw [44] (fun y ws=> ∃ k:Nat, ∃ sv bs held n,k≤xs.length∧y= .int .i64 k∧gF ws W.heap.size G sv bs held n∧n<8∧held<2^n∧Hid (pW bs+held*256^bs.length=kF (xs.take k))∧Hid (8*bs.length+n=total (xs.take k))∧Below W.heap.size W ws) (fun y _=>xs.length-(intOf y).toNat)
     case atStart=>exact⟨0,_,[],0,0,fg _,rfl,hsk,by decide,by decide,rfl,rfl,hb2⟩
     case round=>
      obtain⟨k,sv,bs,held,n,hk,rfl,hs,hn8,hh,hN,hL,hb⟩:=hrel;by_cases hlt:k<xs.length
      ·obtain⟨⟨p1,p2⟩,hp⟩: ∃ p,xs[k]? =some p:=⟨_,aj hlt⟩;have hc:=HC.out k _ hp;have hw:=hg _ (jm hp);obtain⟨v,rfl,hv⟩:=agU hw.1;obtain⟨w,rfl,hw64,hvw⟩:=ZE (UX hfe.out (jm hp));have hc0:wr.cell? ⟨b,off+k*2,none⟩=some (.int .u64 v):=(hb.cell (p:=⟨b,off+k*2,none⟩) hblk).trans hc.1;have hc1:wr.cell? ⟨b,off+k*2+1,none⟩=some (.int .i64 w):=(hb.cell (p:=⟨b,off+k*2+1,none⟩) hblk).trans hc.2;have hltI:(k:Int)<(xs.length:Int):=by omega
       have HP:=Lib.hid hp;have hsz:W.heap.size≤wr.heap.size:=hb.size;have HV:=Lib.hid hvw;have HH:=Lib.hid hh;clear hc hp hw hvw hh;have hbl:bs.length≤999000:=by have:=hL.out;have:=wS xs k;omega
       go_wp2_with (fail)
       refine (mM v w held n _ G sv bs _ (hs.alloc _) hn8 HH.out hw64 HV.out hbl).mono ?_;rintro e w' ⟨rfl,hb',sv',bs',held',n',hs',hn',hh',hN',hL'⟩;have hb3:=(hb.alloc hsz (Obj.cells #[Value.int .u64 (v:Int),Value.int .i64 (w:Int)] 394)).trans hb';have HN:=Lib.hid (hN'.trans (show pW bs+held*256^bs.length+v*2^(8*bs.length+n)=kF (xs.take (k+1)) from by rw[adZ HP.out,hN.out,hL.out];rfl));have HL:=Lib.hid (hL'.trans (show 8*bs.length+n+w=total (xs.take (k+1)) from by rw[LB HP.out,hL.out];rfl));clear hN' hL' hb' hs hb hc0 hc1 hbl
       go_wp2_with (fail)
       exact⟨⟨k+1,sv',bs',held',n',by omega,rfl,hs',hn',hh',HN,HL,hb3⟩,by show xs.length-(((k:Int)+1).toNat)<xs.length-((k:Int).toNat);omega⟩
      ·have hke:k=xs.length:=by omega
       subst hke;have hbl:bs.length≤2000000:=by have:=hL.out;have:=wS xs xs.length;omega
       rw[jb] at hN hL
       go_wp2_with (fail)
       refine (aiF held n _ G sv bs _ hs hn8 hh hbl).mono ?_;rintro e w' ⟨rfl,hb'⟩;have hb3:=hb.trans hb';have hS:FJ xs=⟨(alZ bs held n).toArray⟩:=by rw[FJ,if_pos HE.out,amB hn8 hh hN.out hL.out]
       have HS:=Lib.hid hS;clear hS hn8 hh
       go_wp2_with (fail)
       go_ret2
       exact⟨by rw[HS.out,HE.out];rfl,hb3⟩
end Go.Proofs.YtbjalbcdbgcgdaaGreat.bits
