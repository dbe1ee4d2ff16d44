/- Law HandStale: its texts, packed. -/
import Derived.Test.YtbjalbcdbgcgdaaGreatRows
import Derived.Test.YtbjalbcdbgcgdaaGreatK00
import Derived.Test.YtbjalbcdbgcgdaaGreatK07
open List renaming replicate->eb,take_of_length_le->dc,take_succ_eq_append_getElem->gr
open Nat renaming le_refl->aq,or_comm->gx,pow_succ->gu,zero_le->fg
open UInt8 renaming ofNat->gl,toNat->gw
set_option linter.unusedVariables false
set_option maxRecDepth 100000
set_option maxHeartbeats 8000000
namespace Go.Proofs.YtbjalbcdbgcgdaaGreat.put
open Go.RowKit bG
def xI:Nat→Nat→List UInt8
 |0,n=>[gl n]
 |f+1,n=>if n<128 then [gl n] else gl (n%128+128)::xI f (n/128)
def cA (n:Nat):List UInt8:=xI 10 n
theorem pU:iU Tryz.prog 292 5 1 1 (.int .u8 0):=wZ Tryz.underlying292 (by kernel_rfl) rfl (by decide)
theorem tW: ∀ (f n:Nat),1≤(xI f n).length∧(xI f n).length≤f+1:=by
 intro f;induction f with
 |zero=>intro n;simp [xI]
 |succ f ih=>
  intro n;rw[xI];split
  ·simp
  ·have:=ih (n/128);simp;omega
theorem aGI (m:Nat):bits BinOp.or IntKind.u8 ((m:Int)%256) 128=((gl (m%128+128)).toNat:Int):=by
 have e:(m:Int)%256=((m%256:Nat):Int):=by omega
 rw[e,show (128:Int)=((128:Nat):Int) from rfl,u8_or_nat _ _ (by omega) (by omega)];have h2:gw (gl (m%128+128))=m%128+128:=by simp;omega
 rw[h2];congr 1;rcases Nat.lt_or_ge (m%256) 128 with h|h
 ·rw[gx,nat_join 7 128 (m%256) (by decide) (by omega)];omega
 ·have e2:m%256=128+m%128:=by omega
  rw[e2, ←nat_join 7 128 (m%128) (by decide) (by omega),gx, ←Nat.or_assoc,Nat.or_self,nat_join 7 128 (m%128) (by decide) (by omega)];omega
theorem zH (f m:Nat) (h: ¬ m<128):xI (f+1) m=gl (m%128+128)::xI f (m/128):=by rw[xI,if_neg h]
theorem oD (f m:Nat) (h:m<128):xI f m=[gl m]:=by
 cases f with
 |zero=>rfl
 |succ f=>rw[xI,if_pos h]
theorem aDS (m:Nat) (h:m<128):(m:Int)=((gl m).toNat:Int):=by
 have h2:gw (gl m)=m:=by simp;omega
 rw[h2]
theorem mM (n:Nat) (h1:n<18446744073709551616) (W:World):
  Calls Tryz.prog 245 #[.int .u64 n] W fun e w'=>e= .returned (.string ⟨(cA n).toArray⟩)∧Below W.heap.size W w':=by
 obtain⟨N,rfl⟩: ∃ N,N=n:=⟨_,rfl⟩
 go_enter Tryz.func245,Tryz.ntmps245
 go_wp2_with (fail)
 go_loopw [0,3] (fun x y wr=> ∃ f m:Nat, ∃ xs:List UInt8,m<128^(f+1)∧m<18446744073709551616∧x= .int .u64 m∧wr.ownsRow W.heap.size 5 1 y xs.length (aP xs)∧xs.length+f=10∧Hid (cA N=xs++xI f m)∧Below W.heap.size W wr) (fun x _ _=>(intOf x).toNat)
 case atStart=>exact⟨10,N,[],by omega,h1,rfl,World.ownsRow_nil _ _ _ _,rfl,rfl,Below.refl _ _⟩
 case round=>
  obtain⟨f,m,xs,hm,hm2,rfl,hown,hlen,hput,hbel⟩:=hrel;have hsz:=hbel.size;by_cases hlt:m<128
  ·have e8:=Lib.hid (aDS m hlt)
   go_wp2_with (at_builtin;refine acW put.pU rfl (.tmp 14) (.tmp 17) rfl _ _ xs.length (aP xs) rfl rfl hown rfl ?c3 ?c4 hbel hsz ?_)
   case c3=>omega
   case c4=>unfold maxLen;omega
   intro v' w1 hown1 _ hbel1 _;rw[eI xs (gl m) _ e8.out] at hown1;have hs:=kA (src:=292) (dst:=9) Tryz.underlying292 Tryz.underlying5 Tryz.underlying9 hown1;clear hown1 hown
   go_wp2
   go_ret
   exact⟨by rw[hput.out,oD f m hlt];rfl,hbel1⟩
  ·have e8:=Lib.hid (aGI m)
   go_wp2_with (at_builtin;refine acW put.pU rfl (.tmp 8) (.tmp 12) rfl _ _ xs.length (aP xs) rfl rfl hown rfl ?c3 ?c4 hbel hsz ?_)
   case c3=>omega
   case c4=>unfold maxLen;omega
   intro v' w1 hown1 _ hbel1 _;rw[eI xs (gl (m%128+128)) _ e8.out] at hown1;clear hown
   go_wp2
   go_roundw
   case rel=>
    obtain⟨f,rfl⟩: ∃ g,f=g+1:=by
     cases f with
     |zero=>omega
     |succ f=>exact⟨f,rfl⟩
    refine⟨f,m/128,xs++[gl (m%128+128)], ?_,by omega, ?_,by simpa using hown1,by simp;omega, ?_,hbel1⟩
    ·rw[gu] at hm;exact Nat.div_lt_of_lt_mul (by rw[Nat.mul_comm];exact hm)
    ·exact lA (by omega)
    ·show cA N=_;rw[hput.out,zH f m hlt];simp
   case measure=>simp [intOf];omega
end Go.Proofs.YtbjalbcdbgcgdaaGreat.put
namespace Go.Proofs.YtbjalbcdbgcgdaaGreat.fix
open Go.RowKit bG put
def dM (n:Nat):Nat→List UInt8
 |0=>[]
 |k+1=>gl (n/256^k%256)::dM n k
def bU (l:List UInt8):Nat:=l.foldl (fun a b=>a*256+b.toNat) 0
theorem bQ (n k:Nat):(dM n k).length=k:=by
 induction k with
 |zero=>rfl
 |succ k ih=>simp [dM,ih]
theorem UK (n w:Nat) (h1:1≤w) (h2:w≤8) (hn:n<18446744073709551616) (W:World):
  Calls Tryz.prog 194 #[.int .u64 n, .int .i64 w] W fun e w'=>e= .returned (.string ⟨(dM n w).toArray⟩)∧Below W.heap.size W w':=by
 obtain⟨N,rfl⟩: ∃ N,N=n:=⟨_,rfl⟩
 go_enter Tryz.func194,Tryz.ntmps194
 go_wp2_with (at_make;refine aFR put.pU rfl rfl (.tmp 13) (.tmp 13) rfl .i64 .i64 _ _ w rfl rfl rfl rfl ?c1 ?c2 (Below.refl _ _) (aq _) ?_)
 case c1=>omega
 case c2=>unfold maxLen;omega
 intro g w1 hrow _ hbel hsz hg;clear hg
 go_wp2_with (fail)
 go_loopw [0,6] (fun x y wr=> ∃ j:Nat,j≤w∧x= .int .u64 ((N/256^(w-j):Nat):Int)∧y= .int .i64 ((j:Int)-1)∧wr.ownsRow W.heap.size 5 1 (.slice (some ⟨g,0,none⟩) w w) w (eb j (.int .u8 0)++aP (dM N (w-j)))∧Below W.heap.size W wr) (fun _ y _=>(intOf y+1).toNat)
 case atStart=>exact⟨w,aq _,by simp,rfl,by simpa [dM,aP] using hrow,hbel⟩
 case round=>
  obtain⟨j,hj,rfl,hy,hown,hb⟩:=hrel;cases j with
  |zero=>
   obtain rfl:=hy;have hs:=kA (src:=292) (dst:=9) Tryz.underlying292 Tryz.underlying5 Tryz.underlying9 (by simpa using hown);clear hown hrow
   go_wp2_with (fail)
   go_ret
   exact⟨rfl,hb⟩
  |succ i=>
   obtain rfl:_=Value.int .i64 (i:Int):=hy.trans (lA (by omega));have hc:=hown.cellAt i (by omega);rw[List.getElem?_append_left (by simp),List.getElem?_replicate,if_pos (by omega)] at hc;have hf:=hown.frozenAt i;obtain⟨k,hk⟩: ∃ k,k=w-(i+1):=⟨_,rfl⟩;have hk2:w-i=k+1:=by omega
   rw[←hk] at hown ⊢;obtain⟨m,hm⟩: ∃ m,m=N/256^k:=⟨_,rfl⟩;rw[←hm];have hst:=(hown.stored i (.int .u8 ((m:Int)%256))).1;have e1:(eb (i+1) (Value.int .u8 0)++aP (dM N k)).set i (Value.int .u8 ((m:Int)%256))=eb i (Value.int .u8 0)++aP (dM N (k+1)):=by
    rw[List.replicate_succ',List.append_assoc,List.set_append_right _ _ (by simp)];simp [dM,aP, ←hm]
   rw[e1] at hst;have hgb:=hown.lt _ rfl;clear hown hrow hy;have HST:=Lib.hid hst;have HK:=Lib.hid hk2;have HM:=Lib.hid hm;clear hst hk hk2 hm e1
   go_wp2_with (fail)
   go_roundw
   case rel=>
    refine⟨i,by omega,lA ?_,rfl,by rw[HK.out];exact HST.out,hb.setCell (p:=⟨g,i,none⟩) hgb.1 _⟩;rw[HK.out,gu, ←Nat.div_div_eq_div_mul, ←HM.out];rfl
   case measure=>simp [intOf]
theorem YA (l:List UInt8) (b:UInt8):bU (l++[b])=bU l*256+b.toNat:=by simp [bU]
theorem arP (l:List UInt8): ∀ (a k:Nat),a<256^k→l.foldl (fun a b=>a*256+b.toNat) a<256^(k+l.length):=by
 induction l with
 |nil=>intro a k h;simpa using h
 |cons b l ih=>
  intro a k h;have:=b.toNat_lt;have h2:a*256+b.toNat<256^(k+1):=by rw[gu];omega
  have:=ih _ _ h2;rw[List.length_cons,Nat.add_comm l.length 1, ←Nat.add_assoc];exact this
theorem qM (l:List UInt8):bU l<256^l.length:=by
 have:=arP l 0 0 (by decide);simpa [bU] using this
theorem pK (m b k:Nat) (hm:m<256^k) (hk:k<8) (hb:b<256):bits BinOp.or IntKind.u64 (IntKind.u64.wrap ((m:Int)*256)) (IntKind.u64.wrap (b:Int))=((m*256+b:Nat):Int):=by
 have h:(256:Nat)^k≤256^7:=Nat.pow_le_pow_right (by decide) (by omega);have e7:(256:Nat)^7=72057594037927936:=by decide
 have e:IntKind.u64.wrap ((m:Int)*256)=((m*256:Nat):Int):=by rw[IntKind.wrap_u64];omega
 rw[e,show IntKind.u64.wrap (b:Int)=(b:Int) from by rw[IntKind.wrap_u64];omega,u64_or_nat _ _ (by omega) (by omega)];congr 1;exact nat_join 8 (m*256) b (by omega) (by omega)
theorem akY (s:ByteArray) (hs:s.size≤8) (W:World):
  Calls Tryz.prog 227 #[.string s] W fun e w'=>e= .returned (.tuple #[.int .u64 (bU s.data.toList:Int), .int .i64 0])∧W=w':=by
 go_enter Tryz.func227,Tryz.ntmps227
 go_wp2_with (fail)
 go_loop [4,5,11] (fun x _ y=> ∃ k:Nat,k≤s.size∧x= .int .u64 (bU (s.data.toList.take k):Int)∧y= .int .i64 k) (fun _ _ y=>8-(intOf y).toNat)
 case atStart=>exact⟨0,fg _,rfl,rfl⟩
 case round=>
  obtain⟨k,hk,rfl,rfl⟩:=hrel;by_cases hlt:k<s.size
  ·have e:s.data.toList.take (k+1)=s.data.toList.take k++[s[k]]:=by
    rw[gr (by simpa using hlt)];rfl
   have hl:=qM (s.data.toList.take k);have hl2:(s.data.toList.take k).length=k:=by rw[List.length_take];have:s.data.toList.length=s.size:=(Lib.size_eq s).symm;omega
   rw[hl2] at hl;have hor:=pK _ s[k].toNat k hl (by omega) s[k].toNat_lt;have HO:Hid (bits BinOp.or IntKind.u64 (IntKind.u64.wrap ((bU (s.data.toList.take k):Int)*256)) (IntKind.u64.wrap (s[k].toNat:Int))=(bU (s.data.toList.take (k+1)):Int)):=by
    show _=_;rw[hor,e,YA]
   clear hor e hl2 hl
   go_wp2_with (fail)
   go_round
   case rel=>exact⟨k+1,by omega,lA HO.out,by go_num⟩
   case measure=>simp [intOf];omega
  ·obtain rfl:k=s.size:=by omega
   have HE:Hid (s.data.toList.take s.size=s.data.toList):=dc (by rw[Lib.size_eq];exact aq _)
   go_wp2_with (fail)
   go_ret2
   exact⟨by rw[HE.out];rfl,rfl⟩
end Go.Proofs.YtbjalbcdbgcgdaaGreat.fix
namespace Go.Proofs.YtbjalbcdbgcgdaaGreat.sum
open Go.RowKit bG
def zJ (c:BitVec 32):BitVec 32:=if c.getLsbD 0 then (c>>>1)^^^2197175160#32 else c>>>1
def steps:Nat→BitVec 32→BitVec 32
 |0,c=>c
 |k+1,c=>zJ (steps k c)
def oE (c:BitVec 32) (b:UInt8):BitVec 32:=steps 8 (c^^^BitVec.ofNat 32 b.toNat)
def KC (c:BitVec 32) (l:List UInt8):BitVec 32:=l.foldl oE c
def KD (c:BitVec 32) (l:List UInt8):BitVec 32:= ~~~ KC (~~~ c) l
theorem aGJ (c:BitVec 32):(c.toNat:Int)/(2:Int)=((c>>>1).toNat:Int):=by
 rw[BitVec.toNat_ushiftRight,Nat.shiftRight_eq_div_pow];omega
theorem ahN (a b:BitVec 32):bits BinOp.xor IntKind.u32 (a.toNat:Int) (b.toNat:Int)=((a^^^b).toNat:Int):=by
 rw[u32_xor_nat _ _ a.isLt b.isLt,BitVec.toNat_xor]
theorem lsb (c:BitVec 32):(bits BinOp.and IntKind.u32 (c.toNat:Int) 1==1)=c.getLsbD 0:=by
 rw[show (1:Int)=((1:Nat):Int) from rfl,u32_and_nat _ _ c.isLt (by decide),nat_mask1];rw[BitVec.getLsbD,Nat.testBit_zero,Bool.eq_iff_iff,beq_iff_eq,decide_eq_true_iff];omega
theorem YC (c:BitVec 32) (W:World):Calls Tryz.prog 347 #[.int .u32 (c.toNat:Int)] W fun e w'=>e= .returned (.int .u32 ((zJ c).toNat:Int))∧W=w':=by
 have hlt:=c.isLt;have hlsb:=lsb c;have HX:Hid (bits BinOp.xor IntKind.u32 ((c.toNat:Int)/2) 2197175160=(((c>>>1)^^^2197175160#32).toNat:Int)):=by
  show _=_;rw[aGJ,show (2197175160:Int)=((2197175160#32).toNat:Int) from rfl,ahN]
 have HS:=Lib.hid (aGJ c);cases hb:c.getLsbD 0
 ·have HB:=Lib.hid hb;rw[hb] at hlsb;clear hb
  go_enter Tryz.func347,Tryz.ntmps347
  go_wp2_with (fail)
  go_ret
  exact⟨IA (by rw[zJ,if_neg (by rw[HB.out];simp)];exact HS.out),rfl⟩
 ·have HB:=Lib.hid hb;rw[hb] at hlsb;clear hb
  go_enter Tryz.func347,Tryz.ntmps347
  go_wp2_with (fail)
  go_ret
  exact⟨IA (by rw[zJ,if_pos HB.out];exact HX.out),rfl⟩
theorem ahO (c:BitVec 32):bits BinOp.xor IntKind.u32 IntKind.u32.max (c.toNat:Int)=((~~~ c).toNat:Int):=by
 have e:IntKind.u32.max=((BitVec.allOnes 32).toNat:Int):=by decide
 rw[e,ahN,BitVec.xor_comm,BitVec.xor_allOnes]
theorem aDT (c:BitVec 32) (b:UInt8):bits BinOp.xor IntKind.u32 (c.toNat:Int) ((b.toNat:Int)%4294967296)=((c^^^BitVec.ofNat 32 b.toNat).toNat:Int):=by
 have hb:=b.toNat_lt;have e:(b.toNat:Int)%4294967296=((BitVec.ofNat 32 b.toNat).toNat:Int):=by
  rw[BitVec.toNat_ofNat];omega
 rw[e,ahN]
theorem QT (c:BitVec 32) (l:List UInt8) (b:UInt8):KC c (l++[b])=oE (KC c l) b:=by simp [KC]
theorem arQ (c:BitVec 32) (s:ByteArray) (hs:s.size≤1000000000000000) (W:World):
  Calls Tryz.prog 330 #[.int .u32 (c.toNat:Int), .string s] W fun e w'=>e= .returned (.int .u32 ((KD c s.data.toList).toNat:Int))∧W=w':=by
 obtain⟨c',hc'⟩: ∃ c',c'= ~~~ c:=⟨_,rfl⟩;have hn:=ahO c;rw[←hc'] at hn;have HN:=Lib.hid hn;have HC:=Lib.hid hc';clear hn hc'
 go_enter Tryz.func330,Tryz.ntmps330
 go_wp2_with (fail)
 rw[HN.out]
 go_loop [0,5,10,19] (fun x _ y _=> ∃ k:Nat,k≤s.size∧x= .int .u32 ((KC c' (s.data.toList.take k)).toNat:Int)∧y= .int .i64 k) (fun _ _ y _=>s.size-(intOf y).toNat)
 case atStart=>exact⟨0,fg _,rfl,rfl⟩
 case round=>
  obtain⟨k,hk,rfl,rfl⟩:=hrel;by_cases hlt:k<s.size
  ·have e:s.data.toList.take (k+1)=s.data.toList.take k++[s[k]]:=by
    rw[gr (by simpa using hlt)];rfl
   have HE:Hid (KC c' (s.data.toList.take (k+1))=oE (KC c' (s.data.toList.take k)) s[k]):=by
    show _=_;rw[e,QT]
   clear e;obtain⟨d,hd⟩: ∃ d,d=KC c' (s.data.toList.take k):=⟨_,rfl⟩;rw[←hd] at HE ⊢;clear hd;obtain⟨x0,hx0⟩: ∃ x0,x0=d^^^BitVec.ofNat 32 s[k].toNat:=⟨_,rfl⟩;have hb:=aDT d s[k];rw[←hx0] at hb;have HB:=Lib.hid hb;have HX:=Lib.hid hx0;clear hb hx0
   go_wp2_with (fail)
   rw[HB.out]
   go_loop [0,19] (fun x y=> ∃ j:Nat,j≤8∧x= .int .u32 ((steps j x0).toNat:Int)∧y= .int .i64 j) (fun _ y=>8-(intOf y).toNat)
   case atStart=>exact⟨0,by omega,rfl,rfl⟩
   case round=>
    obtain⟨j,hj,rfl,rfl⟩:=hrel;obtain⟨g,hg⟩: ∃ g,g=steps j x0:=⟨_,rfl⟩;have HG:=Lib.hid hg;rw[←hg];clear hg;by_cases hj8:j<8
    ·go_wp2_with (go_at_call 347;refine (YC g _).mono ?_;rintro e w' ⟨rfl,rfl⟩)
     go_round
     case rel=>exact⟨j+1,by omega,by rw[steps, ←HG.out],by go_num⟩
     case measure=>simp [intOf];omega
    ·obtain rfl:j=8:=by omega
     go_wp2_with (fail)
     go_round
     case rel=>exact⟨k+1,by omega,by rw[HE.out,oE, ←HX.out, ←HG.out],by go_num⟩
     case measure=>simp [intOf];omega
  ·obtain rfl:k=s.size:=by omega
   have HE:Hid (s.data.toList.take s.size=s.data.toList):=dc (by rw[Lib.size_eq];exact aq _);rw[HE.out]
   go_wp2_with (fail)
   go_ret
   exact⟨by rw[KD, ←HC.out];exact IA (ahO _),rfl⟩
end Go.Proofs.YtbjalbcdbgcgdaaGreat.sum
