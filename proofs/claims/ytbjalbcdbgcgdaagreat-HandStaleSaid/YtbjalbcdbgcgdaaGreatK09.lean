/- Law HandStale: its texts, packed. -/
import Derived.Test.YtbjalbcdbgcgdaaGreatK08
import Derived.Test.YtbjalbcdbgcgdaaGreatK00
import Derived.Test.YtbjalbcdbgcgdaaGreatK05
import Derived.Test.YtbjalbcdbgcgdaaGreatK07
import Derived.Test.YtbjalbcdbgcgdaaGreatRows
open List renaming append_assoc->ep,drop_left->ic,length_drop->eu,length_take->b9,take_left->ie
open Nat renaming add_assoc->bw,add_comm->ij,add_mul->an,le_refl->aq,mod_eq_of_lt->gy,mul_assoc->ig,mul_comm->ej,mul_le_mul_right->bz,pow_le_pow_right->ib,pow_succ->gu
open UInt8 renaming ofNat->gl
open Array renaming getElem?_eq_none->dr
open Bool renaming eq_false_or_eq_true->ia
set_option linter.unusedVariables false
set_option maxRecDepth 100000
set_option maxHeartbeats 8000000
namespace Go.Proofs.YtbjalbcdbgcgdaaGreat.sum
open Go.RowKit bG
def FF (k i:Nat):Value:=if i<k then .int .u32 ((steps 8 (BitVec.ofNat 32 i)).toNat:Int) else .int .u32 0
def lF (k:Nat):Array Value:=Array.ofFn (n:=256) fun i=>FF k i.val
theorem gY (k:Nat):(lF k).size=256:=by simp [lF]
theorem zK (k i:Nat) (h:i<256):(lF k)[i]? =some (FF k i):=by simp [lF,h]
theorem akZ (k i:Nat):(FF k i).oneCell'=true:=by
 unfold FF;by_cases h:i<k
 ·rw[if_pos h];simp only[Value.oneCell']
 ·rw[if_neg h];simp only[Value.oneCell']
theorem YD (k:Nat): ∀ v∈(lF k).toList,v.oneCell'=true:=by
 intro v hv;obtain⟨i,hi⟩:=List.mem_iff_getElem?.1 hv;have h2:(lF k)[i]? =some v:=by simpa using hi
 have h3:i<256:=by
  rcases Nat.lt_or_ge i 256 with h|h
  ·exact h
  ·rw[dr (by rw[gY];exact h)] at h2;cases h2
 rw[zK k i h3] at h2;rw[←Option.some.inj h2];exact akZ k i
theorem arR (k:Nat):(lF k).setIfInBounds k (.int .u32 ((steps 8 (BitVec.ofNat 32 k)).toNat:Int))=lF (k+1):=by
 apply Array.ext_getElem?;intro i;rw[Array.getElem?_setIfInBounds];by_cases hi:i<256
 ·rw[zK _ _ hi,zK _ _ hi];by_cases h:k=i
  ·subst h;simp [FF,gY,hi]
  ·have e:(i<k)↔(i<k+1):=by omega
   simp [h,FF,e]
 ·have e1:(lF k)[i]? =none:=dr (by rw[gY];omega);have e2:(lF (k+1))[i]? =none:=dr (by rw[gY];omega);rw[e1,e2];by_cases h:k=i
  ·subst h;simp [gY,hi]
  ·simp [h]
theorem arS:(Tryz.prog.info? 416).map (·.zero)=some (some (.agg (lF 0))):=by kernel_rfl
theorem UL:(Tryz.prog.info? 416).map (·.size)=some 256:=by kernel_rfl
theorem alA (W:World):
  Calls Tryz.prog 331 #[] W fun e w'=>e= .returned (.agg (lF 256))∧Below W.heap.size W w':=by
 have hu70:=Tryz.underlying416
 go_enter Tryz.func331,Tryz.ntmps331
 go_wp2_with (with_reducible refine bG.rN rfl 416 rfl (.agg (lF 0)) arS ?_)
 have hb0:Below W.heap.size W (W.alloc (.cells (lF 0) 416)):=(Below.refl _ _).alloc (aq _) _;have hg0:=heap_alloc_new W (.cells (lF 0) 416)
 go_loopw [1,2,3,8] (fun _ _ x _ wr=> ∃ k:Nat,k≤256∧x= .int .i64 k∧wr.heap[W.heap.size]? =some (.cells (lF k) 416 (0,0))∧Below W.heap.size W wr) (fun _ _ x _ _=>256-(intOf x).toNat)
 case atStart=>exact⟨0,by omega,rfl,hg0,hb0⟩
 case round=>
  clear hb0 hg0;obtain⟨k,hk,rfl,hg,hb⟩:=hrel;by_cases hlt:k<256
  ·obtain⟨c,hc⟩: ∃ c,c=BitVec.ofNat 32 k:=⟨_,rfl⟩;have hck:c.toNat=k:=by rw[hc,BitVec.toNat_ofNat];omega
   have HK:Hid ((k:Int)=(c.toNat:Int)):=congrArg Int.ofNat hck.symm;have HC:=Lib.hid hc;have HG:=Lib.hid hg;have hcell:wr.cell? ⟨W.heap.size,k,none⟩=some (FF k k):=by rw[cell_of_row _ _ _ _ _ _ hg,zK _ _ hlt]
   have hfro:=frozen_of_row _ _ k _ _ hg;have hltI:(k:Int)<256:=by omega
   clear hck hc hg
   go_wp2_with (fail)
   go_loop [2,8] (fun x y=> ∃ j:Nat,j≤8∧x= .int .u32 ((steps j c).toNat:Int)∧y= .int .i64 j) (fun _ y=>8-(intOf y).toNat)
   case atStart=>exact⟨0,by omega,lA HK.out,rfl⟩
   case round=>
    obtain⟨j,hj,rfl,rfl⟩:=hrel;obtain⟨g,hg⟩: ∃ g,g=steps j c:=⟨_,rfl⟩;have HJ:=Lib.hid hg;rw[←hg];clear hg;by_cases hj8:j<8
    ·go_wp2_with (go_at_call 347;refine (YC g _).mono ?_;rintro e w' ⟨rfl,rfl⟩)
     go_round
     case rel=>exact⟨j+1,by omega,by rw[steps, ←HJ.out],by go_num⟩
     case measure=>simp [intOf];omega
    ·obtain rfl:j=8:=by omega
     go_wp2_with (fail)
     go_roundw
     case rel=>
      refine⟨k+1,by omega,by go_num, ?_,hb.setCell (p:=⟨W.heap.size,k,none⟩) (aq _) _⟩;rw[heap_setCell_same _ _ _ _ _ _ HG.out,HJ.out,HC.out,arR]
     case measure=>simp [intOf];omega
  ·obtain rfl:k=256:=by omega
   go_wp2_with (first
    |(with_reducible refine wpList_load_row rfl 416 _ rfl W.heap.size rfl _ (lF 256) _ _ hg hu70 rfl (by rw[gY];exact UL) ?_)
    | (with_reducible show wpList _ _ _ ({ dst := none, op := Op.store 416 (.tmp 0) (.tmp 17), type := _, pos := _, after := _, guard := none } :: _) _ _; (refine bG.wpList_store_row rfl 416 _ _ rfl W.heap.size rfl _ _ (lF 256) hg rfl rfl (by rw [gY]; exact UL) (YD 256) ?_)))
   refine bodyPost_ret_by (v:= .agg (lF 256)) (results_cell_row (ty:=416) rfl _ _ W.heap.size _ (lF 256) _ _ rfl (setRow_heap _ _ _ _ _ _ hg) hu70 rfl (by rw[gY];exact UL)) rfl ⟨rfl,yR hb (aq _) _⟩
theorem alB (a b:BitVec 32):zJ (a^^^b)=zJ a^^^zJ b:=by
 unfold zJ;rw[BitVec.getLsbD_xor,BitVec.ushiftRight_xor_distrib];cases a.getLsbD 0<;>cases b.getLsbD 0<;>simp
 ·rw[BitVec.xor_assoc]
 ·rw[BitVec.xor_assoc,BitVec.xor_comm (b>>>1), ←BitVec.xor_assoc]
 ·rw[BitVec.xor_assoc (a>>>1),BitVec.xor_comm (b>>>1), ←BitVec.xor_assoc _ _ (b>>>1),BitVec.xor_self,BitVec.zero_xor]
theorem alC (k:Nat) (a b:BitVec 32):steps k (a^^^b)=steps k a^^^steps k b:=by
 induction k with
 |zero=>rfl
 |succ k ih=>rw[steps,steps,steps,ih,alB]
theorem YE (x:BitVec 32): ∀ k,(∀ i,i<k→x.getLsbD i=false)→steps k x=x>>>k:=by
 intro k;induction k with
 |zero=>intro _;simp [steps]
 |succ k ih=>
  intro h;rw[steps,ih (fun i hi=>h i (by omega)),zJ,if_neg (by simp [h k (by omega)]),BitVec.shiftRight_add]
theorem alD (c:BitVec 32) (b:UInt8):oE c b=(c>>>8)^^^steps 8 (BitVec.ofNat 32 ((c.toNat%256)^^^b.toNat)):=by
 have e:c^^^BitVec.ofNat 32 b.toNat=((c>>>8)<<<8)^^^BitVec.ofNat 32 ((c.toNat%256)^^^b.toNat):=by
  have hb:=b.toNat_lt;apply BitVec.eq_of_getLsbD_eq;intro i hi;have h8: ∀ j,8≤j→b.toNat.testBit j=false:=fun j hj=>Nat.testBit_lt_two_pow (Nat.lt_of_lt_of_le hb (ib (by decide) hj))
  simp only[BitVec.getLsbD_xor,BitVec.getLsbD_shiftLeft,BitVec.getLsbD_ushiftRight,BitVec.getLsbD_ofNat,hi,decide_true,Bool.true_and,Nat.testBit_xor];rw[show (256:Nat)=2^8 from rfl,Nat.testBit_mod_two_pow];by_cases h:i<8
  ·simp [h,BitVec.getLsbD]
  ·have e2:8+(i-8)=i:=by omega
   simp [h,e2,h8 i (by omega)]
 rw[oE,e,alC,YE _ 8 (fun i hi=>by simp [hi])];congr 1;apply BitVec.eq_of_getLsbD_eq;intro i hi;simp only[BitVec.getLsbD_shiftLeft,BitVec.getLsbD_ushiftRight];have e3:8+i-8=i:=by omega
 by_cases h:8+i<32
 ·simp [h]
 ·simp [BitVec.getLsbD_of_ge _ _ (show 32≤8+i by omega)]
theorem arT (c:BitVec 32) (s:ByteArray) (hs:s.size≤1000000000000000) (W:World):
  Calls Tryz.prog 292 #[.int .u32 (c.toNat:Int), .string s] W fun e w'=>e= .returned (.int .u32 ((KD c s.data.toList).toNat:Int))∧Below W.heap.size W w':=by
 have hu70:=Tryz.underlying416;by_cases h32:(s.size:Int)<32
 ·go_enter Tryz.func292,Tryz.ntmps292
  go_wp2_with (fail)
  refine (arQ c s hs _).mono ?_;rintro e w' ⟨rfl,rfl⟩
  go_wp2_with (fail)
  go_ret
  exact⟨rfl,Below.refl _ _⟩
 ·obtain⟨c',hc'⟩: ∃ c',c'= ~~~ c:=⟨_,rfl⟩;have hn:=ahO c;rw[←hc'] at hn;have HN:=Lib.hid hn;have HC:=Lib.hid hc';clear hn hc'
  go_enter Tryz.func292,Tryz.ntmps292
  go_wp2_with (fail)
  refine (alA _).mono ?_;rintro e w1 ⟨rfl,hb1⟩
  go_wp2_with (first
    |(with_reducible refine bG.rN rfl 416 rfl (.agg (lF 0)) arS ?_)
    | (with_reducible refine bG.wpList_store_row rfl 416 _ _ rfl w1.heap.size rfl _ _ (lF 256) (heap_alloc_new _ _) rfl ?hs (by rw [gY]; exact UL) (YD 256) ?_))
  case hs=>rw[gY];exact (gY 0).symm
  have hh:((w1.alloc (.cells (lF 0) 416)).setRow w1.heap.size (lF 256)).heap[w1.heap.size]? =some (.cells (lF 256) 416 (0,0)):=setRow_heap _ _ _ _ _ _ (heap_alloc_new _ _);have hb2:Below W.heap.size W ((w1.alloc (.cells (lF 0) 416)).setRow w1.heap.size (lF 256)):=yR (hb1.alloc hb1.size _) hb1.size _;generalize (w1.alloc (.cells (lF 0) 416)).setRow w1.heap.size (lF 256)=wx at hh hb2 ⊢;generalize w1.heap.size=G at hh ⊢;have HT:Hid (∀ j,j<256→wx.cell? ⟨G,j,none⟩=some (.int .u32 ((steps 8 (BitVec.ofNat 32 j)).toNat:Int))):=fun j hj=>by
   rw[cell_of_row _ _ _ _ _ _ hh,zK _ _ hj,FF,if_pos hj]
  clear hh;rw[HN.out]
  go_loop [0,6,18] (fun x _ y=> ∃ k:Nat,k≤s.size∧x= .int .u32 ((KC c' (s.data.toList.take k)).toNat:Int)∧y= .int .i64 k) (fun _ _ y=>s.size-(intOf y).toNat)
  case atStart=>exact⟨0,Nat.zero_le _,rfl,rfl⟩
  case round=>
   obtain⟨k,hk,rfl,rfl⟩:=hrel;by_cases hlt:k<s.size
   ·have e:s.data.toList.take (k+1)=s.data.toList.take k++[s[k]]:=by
     rw[List.take_succ_eq_append_getElem (by simpa using hlt)];rfl
    obtain⟨d,hd⟩: ∃ d,d=KC c' (s.data.toList.take k):=⟨_,rfl⟩;have HE:Hid (KC c' (s.data.toList.take (k+1))=oE d s[k]):=by
     show _=_;rw[e,QT, ←hd]
    rw[←hd];clear e hd;have hj:d.toNat%256^^^s[k].toNat<256:=Nat.xor_lt_two_pow (n:=8) (by omega) s[k].toNat_lt;have hi:bits BinOp.xor IntKind.u8 ((d.toNat:Int)%256) (s[k].toNat:Int)=((d.toNat%256^^^s[k].toNat:Nat):Int):=by
     rw[←u8_xor_nat _ _ (by omega) s[k].toNat_lt];rfl
    have hf:=alD d s[k];obtain⟨j,hjj⟩: ∃ j,j=d.toNat%256^^^s[k].toNat:=⟨_,rfl⟩;rw[←hjj] at hj hi hf;obtain⟨g,hg⟩: ∃ g,g=steps 8 (BitVec.ofNat 32 j):=⟨_,rfl⟩;have hcell:=HT.out j hj;rw[←hg] at hcell hf;have hd8:(d.toNat:Int)/(256:Int)=((d>>>8).toNat:Int):=by
     rw[BitVec.toNat_ushiftRight,Nat.shiftRight_eq_div_pow];omega
    have hx:=ahN (d>>>8) g;rw[←hd8, ←hf] at hx;have HF:=Lib.hid hx;have hjI:(j:Int)<256:=by omega
    clear hjj hf hg hd8 hx hj
    go_wp2_with (fail)
    go_round
    case rel=>exact⟨k+1,by omega,by rw[HE.out];exact lA HF.out,by go_num⟩
    case measure=>simp [intOf];omega
   ·obtain rfl:k=s.size:=by omega
    have HE:Hid (s.data.toList.take s.size=s.data.toList):=List.take_of_length_le (by rw[Lib.size_eq];exact aq _);rw[HE.out]
    go_wp2_with (fail)
    go_ret
    exact⟨by rw[KD, ←HC.out];exact IA (ahO _),hb2⟩
theorem ayP (s:ByteArray) (hs:s.size≤1000000000000000) (W:World):Calls Tryz.prog 247 #[.string s] W fun e w'=>e= .returned (.int .u32 ((KD 0 s.data.toList).toNat:Int))∧Below W.heap.size W w':=by
 go_enter Tryz.func247,Tryz.ntmps247
 go_wp2_with (fail)
 refine (arT 0#32 s hs _).mono ?_;rintro e w' ⟨rfl,hb⟩
 go_wp2_with (fail)
 go_ret
 exact⟨rfl,hb⟩
end Go.Proofs.YtbjalbcdbgcgdaaGreat.sum
namespace Go.Proofs.YtbjalbcdbgcgdaaGreat.jX
open Go.RowKit bG sl fix sum
attribute [local irreducible] box own sl gH aH bC Qt cJ cG dC dG eO
theorem lG (i:Int) (w:Nat) (h1:1≤w∧w≤8) (hi:0≤i∧i<18446744073709551616):Ct Tryz.prog 194 [.int .u64 i, .int .i64 (w:Int)] [] fun v H'=>v= .string (str (dM i.toNat w))∧H'=[]:=by
 obtain⟨n,rfl⟩: ∃ n:Nat,i=(n:Int):=⟨i.toNat,by omega⟩;exact aW fun W _=>UK n w h1.1 h1.2 (by omega) W
theorem zL (l:List UInt8) (h:l.length≤8):Ct Tryz.prog 227 [.string (str l)] [] fun v H'=>v= .tuple #[.int .u64 (bU l:Int), .int .i64 0]∧H'=[]:=
 aW fun W _=>(akY (str l) (by rw[bP];exact h) W).mono fun e w' ⟨h1,h2⟩=>⟨by rw[h1],by rw[h2];exact Below.refl _ _⟩
def GQ (l:List UInt8):Int:=((KD 0 l).toNat:Int)
theorem ahP (l:List UInt8):0≤GQ l∧GQ l≤4294967295:=by
 have:=(KD 0 l).isLt;unfold GQ;omega
theorem arU (l:List UInt8) (h:l.length≤1000000000000000):Ct Tryz.prog 247 [.string (str l)] [] fun v H'=>v= .int .u32 (GQ l)∧H'=[]:=
 aW fun W _=>ayP (str l) (by rw[bP];exact h) W
def lU (kind serial:Int) (n:Nat):Int:=if kind≠1∧kind≠2∨serial<0∨2147483647<serial then 1 else if 1000<(n:Int) then 2 else 0
theorem zM (kind serial:Int) (b:List UInt8):Ct Tryz.prog 246 [.int .i64 kind, .int .i64 serial, .string (str b)] [] fun v H'=>v= .int .i64 (lU kind serial b.length)∧H'=[]:=by
 (refine Ye Tryz.func246 Tryz.ntmps246 ?_;intro Fr);(repeat' (first|refine Wa ?_|refine Wk ?_|refine We ?_|(refine Wb ?_;intro b)|(refine Wq ?_;intro q)|(refine Ws ?_ ?_<;>intro h)|refine Wz ?_|fail));all_goals exact gU rfl qK _ ⟨by unfold lU;(repeat' split)<;>first|rfl|(exfalso;omega),rfl⟩ yP
def four (c:Int):List UInt8:=[c%256,c/256%256,c/65536%256,c/16777216].map fun z=>gl z.toNat
def bJ (kind serial:Int) (b:List UInt8):List UInt8:=dM kind.toNat 1++dM serial.toNat 4++dM b.length 2++b
def dH (kind serial:Int) (b:List UInt8):List UInt8:=bJ kind serial b++four (GQ (bJ kind serial b))
def FG (kind serial:Int) (b:List UInt8):List UInt8:=if lU kind serial b.length=0 then dH kind serial b else []
theorem vH (kind serial:Int) (b:List UInt8):(bJ kind serial b).length=7+b.length:=by
 simp [bJ,bQ];omega
theorem YF (kind serial:Int) (b:List UInt8):Ct Tryz.prog 193 [.int .i64 kind, .int .i64 serial, .string (str b)] [] fun v H'=>v= .tuple #[.string (str (FG kind serial b)), .int .i64 (lU kind serial b.length)]∧H'=[]:=by
 have FT:=zM kind serial b;by_cases h0:lU kind serial b.length=0
 ·have hS:FG kind serial b=dH kind serial b:=by unfold FG;rw[if_pos h0]
  rw[h0] at FT ⊢;have hk:0≤kind∧kind≤2∧0≤serial∧serial≤2147483647∧b.length≤1000:=by
   unfold lU at h0;split at h0
   ·cases h0
   ·split at h0
    ·cases h0
    ·omega
  have F1:=lG kind 1 (by decide) (by omega);have F2:=lG serial 4 (by decide) (by omega);have F3:=lG (b.length:Int) 2 (by decide) (by omega);have l1:=bQ kind.toNat 1;have l2:=bQ serial.toNat 4;have l3:=bQ (b.length:Int).toNat 2;have hB:dM kind.toNat 1++dM serial.toNat 4++dM (b.length:Int).toNat 2++b=bJ kind serial b:=by rw[Int.toNat_natCast];rfl
  have hbl:=vH kind serial b;have SM:=arU (bJ kind serial b) (by omega);have hsb:=ahP (bJ kind serial b);have hE:bJ kind serial b++four (GQ (bJ kind serial b))=dH kind serial b:=rfl;rw[hS, ←hE];rw[←hB] at SM hsb ⊢;generalize dM kind.toNat 1=f1 at*;generalize dM serial.toNat 4=f2 at*;generalize dM (b.length:Int).toNat 2=f3 at*;clear hB hbl hE;(refine Ye Tryz.func193 Tryz.ntmps193 ?_;intro Fr);(repeat' (first|refine Wa ?_|refine Wk ?_|refine We ?_|(refine Wb ?_;intro b)|(refine Wq ?_;intro q)|refine Wc (FT ..) ?_|refine Wc (F1 ..) ?_|refine Wc (F2 ..) ?_|refine Wc (F3 ..) ?_|refine Wc (SM ..) ?_|(refine Ws ?_ ?_<;>intro h)|refine Wz ?_|fail));exact Ea (x:=⟨rfl,rfl⟩)
 ·have hS:FG kind serial b=[]:=by unfold FG;rw[if_neg h0]
  rw[hS];(refine Ye Tryz.func193 Tryz.ntmps193 ?_;intro Fr);(repeat' (first|refine Wa ?_|refine Wk ?_|refine We ?_|(refine Wb ?_;intro b)|(refine Wq ?_;intro q)|refine Wc (FT ..) ?_|(refine Ws ?_ ?_<;>intro h)|refine Wz ?_|fail));exact Ea (x:=⟨rfl,rfl⟩)
def dU (l:List UInt8) (i j:Nat):List UInt8:=(l.drop i).take (j-i)
def lH (l:List UInt8):Int:=
 if l.length<11 then 3 else if 1011<l.length then 2
 else if l.drop (l.length-4)≠four (GQ (l.take (l.length-4))) then 5
 else if (bU (dU l 5 7):Int)≠((l.length-4:Nat):Int)-7∨lU ((l.getD 0 0).toNat:Int) (bU (dU l 1 5):Int) (dU l 7 (l.length-4)).length≠0 then 4 else 0
def tX (l:List UInt8):Int:=((l.getD 0 0).toNat:Int)
def sV (l:List UInt8):Int:=(bU (dU l 1 5):Int)
def lI (l:List UInt8):List UInt8:=dU l 7 (l.length-4)
def lV (l:List UInt8):Value:=
 if lH l=0 then .tuple #[.int .i64 (tX l), .int .i64 (sV l), .string (str (lI l)), .int .i64 0]
 else .tuple #[.int .i64 0, .int .i64 0, .string (str []), .int .i64 (lH l)]
theorem KE (l:List UInt8) (hl:l.length≤1000000000000000):Ct Tryz.prog 195 [.string (str l)] [] fun v H'=>v=lV l∧H'=[]:=by
 by_cases hs:l.length<11
 ·have hE:lH l=3:=by unfold lH;rw[if_pos hs]
  have hV:lV l= .tuple #[.int .i64 0, .int .i64 0, .string (str []), .int .i64 3]:=by unfold lV;rw[hE];rfl
  rw[hV];(refine Ye Tryz.func195 Tryz.ntmps195 ?_;intro Fr);(repeat' (first|refine Wa ?_|refine Wk ?_|refine We ?_|(refine Wb ?_;intro b)|(refine Wq ?_;intro q)|(refine Ws ?_ ?_<;>intro h)|refine Wz ?_|fail));exact Ea (x:=⟨rfl,rfl⟩)
 ·by_cases hb:1011<l.length
  ·have hE:lH l=2:=by unfold lH;rw[if_neg hs,if_pos hb]
   have hV:lV l= .tuple #[.int .i64 0, .int .i64 0, .string (str []), .int .i64 2]:=by unfold lV;rw[hE];rfl
   rw[hV];(refine Ye Tryz.func195 Tryz.ntmps195 ?_;intro Fr);(repeat' (first|refine Wa ?_|refine Wk ?_|refine We ?_|(refine Wb ?_;intro b)|(refine Wq ?_;intro q)|(refine Ws ?_ ?_<;>intro h)|refine Wz ?_|fail));exact Ea (x:=⟨rfl,rfl⟩)
  ·obtain⟨m,hm⟩: ∃ m,l.length=m+4:=⟨l.length-4,by omega⟩;have hm2:l.length-4=m:=by omega
   have hmI:(l.length:Int)-4=(m:Int):=by omega
   have SM:=arU (l.take m) (by rw[b9];omega);have hsb:=ahP (l.take m);by_cases hd:l.drop m=four (GQ (l.take m))
   ·have hdb:(l.drop m==four (GQ (l.take m)))=true:=by rw[hd];simp
    obtain⟨b0,hb0⟩: ∃ b0,l[0]? =some b0:=⟨_,List.getElem?_eq_getElem (by omega)⟩;have hg:l.getD 0 0=b0:=by rw[List.getD_eq_getElem?_getD,hb0];rfl
    have U1:=zL (dU l 1 5) (by unfold dU;rw[b9];omega);have U2:=zL (dU l 5 7) (by unfold dU;rw[b9];omega);have u1:bU (dU l 1 5)<4294967296:=by
     have:=qM (dU l 1 5);have h2:(dU l 1 5).length=4:=by unfold dU;rw[b9,eu];omega
     rwa [h2] at this
    have u2:bU (dU l 5 7)<65536:=by
     have:=qM (dU l 5 7);have h2:(dU l 5 7).length=2:=by unfold dU;rw[b9,eu];omega
     rwa [h2] at this
    have FT:=zM (b0.toNat:Int) (bU (dU l 1 5):Int) (dU l 7 m);have hbt:=b0.toNat_lt;have hN:sV l=(bU (dU l 1 5):Int):=rfl;have hK:tX l=(b0.toNat:Int):=by unfold tX;rw[hg]
    have hB:lI l=dU l 7 m:=by unfold lI;rw[hm2]
    have hE:lH l=if (bU (dU l 5 7):Int)≠(m:Int)-7∨lU (b0.toNat:Int) (bU (dU l 1 5):Int) (dU l 7 m).length≠0 then 4 else 0:=by
     unfold lH;rw[if_neg hs,if_neg hb,hm2,if_neg (by rw[hd];simp),hg]
    generalize bU (dU l 1 5)=n1 at*;generalize bU (dU l 5 7)=n2 at*;by_cases h7:(n2:Int)=(m:Int)-7
    ·by_cases h8:lU (b0.toNat:Int) (n1:Int) (dU l 7 m).length=0
     ·have hV:lV l= .tuple #[.int .i64 (b0.toNat:Int), .int .i64 (n1:Int), .string (str (dU l 7 m)), .int .i64 0]:=by
       rw[if_neg (by rw[h8,h7];simp)] at hE;unfold lV;rw[hE,if_pos rfl,hK,hN,hB]
      rw[hV];rw[h8] at FT;clear hV hE hK hN hB hg h8 hm2;(refine Ye Tryz.func195 Tryz.ntmps195 ?_;intro Fr);(repeat' (first|refine Wa ?_|refine Wk ?_|refine We ?_|(refine Wb ?_;intro b)|(refine Wq ?_;intro q)|refine Wc (SM ..) ?_|refine Wc (U1 ..) ?_|refine Wc (U2 ..) ?_|refine Wc (FT ..) ?_|(refine Ws ?_ ?_<;>intro h)|refine Wz ?_|fail));exact Ea (x:=⟨rfl,rfl⟩)
     ·have hV:lV l= .tuple #[.int .i64 0, .int .i64 0, .string (str []), .int .i64 4]:=by
       rw[if_pos (.inr h8)] at hE;unfold lV;rw[hE];rfl
      rw[hV];clear hV hE hK hN hB hg hm2;generalize lU (b0.toNat:Int) (n1:Int) (dU l 7 m).length=z at*;(refine Ye Tryz.func195 Tryz.ntmps195 ?_;intro Fr);(repeat' (first|refine Wa ?_|refine Wk ?_|refine We ?_|(refine Wb ?_;intro b)|(refine Wq ?_;intro q)|refine Wc (SM ..) ?_|refine Wc (U1 ..) ?_|refine Wc (U2 ..) ?_|refine Wc (FT ..) ?_|(refine Ws ?_ ?_<;>intro h)|refine Wz ?_|fail));exact Ea (x:=⟨rfl,rfl⟩)
    ·have hV:lV l= .tuple #[.int .i64 0, .int .i64 0, .string (str []), .int .i64 4]:=by
      rw[if_pos (.inl h7)] at hE;unfold lV;rw[hE];rfl
     rw[hV];clear hV hE hK hN hB hg hm2 FT;(refine Ye Tryz.func195 Tryz.ntmps195 ?_;intro Fr);(repeat' (first|refine Wa ?_|refine Wk ?_|refine We ?_|(refine Wb ?_;intro b)|(refine Wq ?_;intro q)|refine Wc (SM ..) ?_|refine Wc (U1 ..) ?_|refine Wc (U2 ..) ?_|(refine Ws ?_ ?_<;>intro h)|refine Wz ?_|fail));exact Ea (x:=⟨rfl,rfl⟩)
   ·have hdb:(l.drop m==four (GQ (l.take m)))=false:=by simpa using hd
    have hE:lH l=5:=by unfold lH;rw[if_neg hs,if_neg hb,if_pos (by rw[hm2];exact hd)]
    have hV:lV l= .tuple #[.int .i64 0, .int .i64 0, .string (str []), .int .i64 5]:=by unfold lV;rw[hE];rfl
    rw[hV];clear hE hV hm2;(refine Ye Tryz.func195 Tryz.ntmps195 ?_;intro Fr);(repeat' (first|refine Wa ?_|refine Wk ?_|refine We ?_|(refine Wb ?_;intro b)|(refine Wq ?_;intro q)|refine Wc (SM ..) ?_|(refine Ws ?_ ?_<;>intro h)|refine Wz ?_|fail));exact Ea (x:=⟨rfl,rfl⟩)
end Go.Proofs.YtbjalbcdbgcgdaaGreat.jX
namespace Go.Proofs.YtbjalbcdbgcgdaaGreat.PH
open Go.RowKit bG fix
theorem YH: ∀ (l:List UInt8) (a:Nat),l.foldl (fun a b=>a*256+b.toNat) a=a*256^l.length+bU l:=by
 intro l;induction l with
 |nil=>intro a;simp [bU]
 |cons b l ih=>
  intro a;have e:bU (b::l)=l.foldl (fun a b=>a*256+b.toNat) b.toNat:=by simp [bU]
  rw[List.foldl_cons,ih,e,ih,List.length_cons,gu,an,ig,ej 256,bw]
theorem adL (b:UInt8) (l:List UInt8):bU (b::l)=b.toNat*256^l.length+bU l:=by
 have e:bU (b::l)=l.foldl (fun a b=>a*256+b.toNat) b.toNat:=by simp [bU]
 rw[e,YH]
theorem vI (n:Nat): ∀ k,bU (dM n k)=n%256^k:=by
 intro k;induction k with
 |zero=>simp [dM,bU,Nat.mod_one]
 |succ k ih=>
  have h:(gl (n/256^k%256)).toNat=n/256^k%256:=by simp
  rw[dM,adL,bQ,ih,h,gu,Nat.mod_mul,ej (256^k),ij]
theorem pL (n:Nat) (h:n<256):dM n 1=[gl n]:=by
 show [gl (n/256^0%256)]=_;rw[Nat.pow_zero,Nat.div_one,gy h]
theorem arV (b:UInt8):dM b.toNat 1=[b]:=by rw[pL _ b.toNat_lt];simp
end Go.Proofs.YtbjalbcdbgcgdaaGreat.PH
namespace Go.Proofs.YtbjalbcdbgcgdaaGreat.jX
open Go.RowKit bG sl fix PH sum
theorem KF {k n:Int} {m:Nat} (h:lU k n m=0):(k=1∨k=2)∧0≤n∧n≤2147483647∧m≤1000:=by
 unfold lU at h;split at h
 ·cases h
 ·split at h
  ·cases h
  ·omega
theorem KG {k n:Int} {m:Nat} (h:(k=1∨k=2)∧0≤n∧n≤2147483647∧m≤1000):lU k n m=0:=by
 unfold lU;rw[if_neg (by omega),if_neg (by omega)]
theorem arW (c:Int):(four c).length=4:=rfl
theorem CN (k n:Int) (b:List UInt8):(dH k n b).length=11+b.length:=by
 simp [dH,vH,arW];omega
theorem zN (a b c:List UInt8) (i j:Nat) (hi:a.length=i) (hj:i+b.length=j):dU (a++(b++c)) i j=b:=by
 unfold dU;rw[←hi,ic,show j-a.length=b.length from by omega,ie]
theorem alE (k n:Int) (b:List UInt8) (h:lU k n b.length=0):lH (dH k n b)=0∧tX (dH k n b)=k∧sV (dH k n b)=n∧lI (dH k n b)=b:=by
 obtain⟨hk,h1,h2,h3⟩:=KF h;have hl:=CN k n b;have hl4:(dH k n b).length-4=7+b.length:=by omega
 have hkn:k.toNat<256:=by omega
 have f1:=pL k.toNat hkn;have e:dH k n b=[gl k.toNat]++(dM n.toNat 4++(dM b.length 2++(b++four (GQ (bJ k n b))))):=by
  unfold dH;rw[bJ,f1];simp
 have c1:dU (dH k n b) 1 5=dM n.toNat 4:=by rw[e];exact zN _ _ _ _ _ rfl (by rw[bQ])
 have c2:dU (dH k n b) 5 7=dM b.length 2:=by
  rw[e, ←ep];exact zN _ _ _ _ _ (by simp [bQ]) (by rw[bQ])
 have c3:dU (dH k n b) 7 (7+b.length)=b:=by
  rw[e, ←ep, ←ep];exact zN _ _ _ _ _ (by simp [bQ]) rfl
 have hK:tX (dH k n b)=k:=by
  unfold tX;rw[e];simp;omega
 have hN:sV (dH k n b)=n:=by
  unfold sV;rw[c1,vI];omega
 have hB:lI (dH k n b)=b:=by
  unfold lI;rw[hl4,c3]
 have t1:(dH k n b).take (7+b.length)=bJ k n b:=by
  unfold dH;rw[←vH k n b,ie]
 have t2:(dH k n b).drop (7+b.length)=four (GQ (bJ k n b)):=by
  unfold dH;rw[←vH k n b,ic]
 refine⟨?_,hK,hN,hB⟩;have hK2:(((dH k n b).getD 0 0).toNat:Int)=k:=hK;have hN2:(bU (dU (dH k n b) 1 5):Int)=n:=hN;have hu:bU (dM b.length 2)=b.length:=by rw[vI];omega
 unfold lH;rw[if_neg (by omega),if_neg (by omega),hl4,t1,t2,if_neg (by simp),hK2,hN2,c2,c3,hu,if_neg];intro hh;rcases hh with hh|hh
 ·omega
 ·exact hh h
theorem arX {l:List UInt8} (h:lH l=0):lV l= .tuple #[.int .i64 (tX l), .int .i64 (sV l), .string (str (lI l)), .int .i64 0]:=by unfold lV;rw[if_pos h]
theorem arY {l:List UInt8} (h:lH l≠0):lV l= .tuple #[.int .i64 0, .int .i64 0, .string (str []), .int .i64 (lH l)]:=by unfold lV;rw[if_neg h]
theorem YI {k n:Int} {b:List UInt8} (h:lU k n b.length=0):FG k n b=dH k n b:=by unfold FG;rw[if_pos h]
end Go.Proofs.YtbjalbcdbgcgdaaGreat.jX
namespace Go.Proofs.YtbjalbcdbgcgdaaGreat.get
open Go.RowKit bG put
def wG:Nat→Nat→Nat→List UInt8→Nat×Nat×Nat
 |0,_,_,_=>(0,0,4)
 |_+1,_,_,[]=>(0,0,3)
 |f+1,i,n,b::r=>
  if i=9∧1<b.toNat∨0<i∧b.toNat=0 then (0,0,4)
  else if b.toNat<128 then (n+b.toNat%128*128^i,i+1,0)
  else wG f (i+1) (n+b.toNat%128*128^i) r
def eD (l:List UInt8):Nat×Nat×Nat:=wG 10 0 0 l
def aDU (r:Nat×Nat×Nat):Value:= .tuple #[.int .u64 (r.1:Int), .int .i64 (r.2.1:Int), .int .i64 (r.2.2:Int)]
theorem pK (n i b:Nat) (hi:i≤9) (hn:n<128^i) (hb:b<256) (h9: ¬ (i=9∧1<b)):bits BinOp.or IntKind.u64 (n:Int) (IntKind.u64.wrap (IntKind.u64.wrap (bits BinOp.and IntKind.u8 (b:Int) 127)*2^(7*i)))=((n+b%128*128^i:Nat):Int)∧n+b%128*128^i<128^(i+1)∧n+b%128*128^i<18446744073709551616:=by
 have e1:bits BinOp.and IntKind.u8 (b:Int) 127=((b%128:Nat):Int):=by
  rw[show (127:Int)=((127:Nat):Int) from rfl,u8_and_nat _ _ hb (by decide),nat_mask7]
 have e2:(128:Nat)^i=2^(7*i):=by rw[Nat.pow_mul]
 have hlt:b%128*128^i+128^i≤128^(i+1):=by
  rw[gu,ej (128^i) 128, ←Nat.succ_mul];exact bz _ (by omega)
 have hlt2:n+b%128*128^i<18446744073709551616:=by
  by_cases h:i=9
  ·subst h;have:b%128≤1:=by omega
   have h2:b%128*128^9≤1*128^9:=bz _ this;have:(128:Nat)^9=9223372036854775808:=by decide
   omega
  ·have h2:(128:Nat)^(i+1)≤128^9:=ib (by decide) (by omega);have:(128:Nat)^9=9223372036854775808:=by decide
   omega
 refine⟨?_,by omega,hlt2⟩;rw[e1,show IntKind.u64.wrap (((b%128:Nat):Int))=((b%128:Nat):Int) from by rw[IntKind.wrap_u64];omega,show ((2:Int)^(7*i))=((2^(7*i):Nat):Int) from by simp, ←Int.natCast_mul, ←e2,IntKind.wrap_u64];rw[show (((b%128*128^i:Nat):Int)%18446744073709551616)=((b%128*128^i:Nat):Int) from by omega];rw[u64_or_nat _ _ (by omega) (by omega)];congr 1;rw[Nat.or_comm,nat_join (7*i) _ _ (by rw[←e2];exact Nat.mul_mod_left _ _) (by rw[←e2];exact hn)];omega
theorem YJ (f i n:Nat) (b:UInt8) (r:List UInt8) (h:i=9∧1<b.toNat∨0<i∧b.toNat=0):wG (f+1) i n (b::r)=(0,0,4):=by rw[wG,if_pos h]
theorem CP (f i n:Nat) (b:UInt8) (r:List UInt8) (h: ¬ (i=9∧1<b.toNat∨0<i∧b.toNat=0)) (h2:b.toNat<128):wG (f+1) i n (b::r)=(n+b.toNat%128*128^i,i+1,0):=by rw[wG,if_neg h,if_pos h2]
theorem CQ (f i n:Nat) (b:UInt8) (r:List UInt8) (h: ¬ (i=9∧1<b.toNat∨0<i∧b.toNat=0)) (h2: ¬ b.toNat<128):wG (f+1) i n (b::r)=wG f (i+1) (n+b.toNat%128*128^i) r:=by rw[wG,if_neg h,if_neg h2]
theorem zO (s : ByteArray) (hs : s.size ≤ maxLen) (W : World) :
    Calls Tryz.prog 248 #[.string s] W fun e w' => e = .returned (aDU (eD s.data.toList)) ∧ W = w' := by
  unfold maxLen at hs
  go_enter Tryz.func248, Tryz.ntmps248
  go_wp2_with (fail)
  go_loop [5, 6] (fun x y => ∃ i n : Nat, i ≤ 10 ∧ i ≤ s.size ∧ n < 128 ^ i ∧ n < 18446744073709551616 ∧ x = .int .u64 n ∧ y = .int .i64 i ∧ Hid (eD s.data.toList = wG (10 - i) i n (s.data.toList.drop i))) (fun _ y => 10 - (intOf y).toNat)
  case atStart => exact ⟨0, 0, by omega, by omega, by decide, by decide, rfl, rfl, rfl⟩
  case round =>
    obtain ⟨i, n, hi, his, hn, hn2, rfl, rfl, hget⟩ := hrel
    by_cases h10 : i < 10
    · by_cases hsz : i = s.size
      · have e : eD s.data.toList = (0, 0, 3) := by
          rw [hget.out, hsz, List.drop_of_length_le (by simp)]
          obtain ⟨k, hk⟩ : ∃ k, 10 - s.size = k + 1 := ⟨9 - s.size, by omega⟩
          rw [hk]; rfl
        have E := Lib.hid e
        clear e hget
        have hb : ((i : Int) == (s.size : Int)) = true := by simp [hsz]
        go_wp2
        go_ret3
        exact ⟨by rw [E.out]; rfl, rfl⟩
      · have hb : ((i : Int) == (s.size : Int)) = false := by simp; omega
        have hlt : i < s.size := by omega
        have hdrop : s.data.toList.drop i = s[i] :: s.data.toList.drop (i + 1) := by
          rw [List.drop_eq_getElem_cons (by simpa using hlt)]; rfl
        obtain ⟨g, hg⟩ : ∃ g, 10 - i = g + 1 := ⟨9 - i, by omega⟩
        have hg2 : 10 - (i + 1) = g := by omega
        have HG : Hid (eD s.data.toList = wG (g + 1) i n (s[i] :: s.data.toList.drop (i + 1))) := by
          show eD s.data.toList = _
          rw [hget.out, hg, hdrop]
        have HG2 := Lib.hid hg2
        clear hdrop hget hg hg2
        rcases ia ((i : Int) == 9) with t9 | t9 <;> rcases ia ((s[i].toNat : Int) == 0) with t0 | t0 <;> by_cases t1 : (1 : Int) < (s[i].toNat : Int) <;> by_cases ti : (0 : Int) < (i : Int) <;> by_cases tl : (s[i].toNat : Int) < 128
        all_goals first | (exfalso; (have a9 := t9; have a0 := t0; simp at a9 a0; omega)) | skip
        all_goals first
          | (have hbad : i = 9 ∧ 1 < s[i].toNat ∨ 0 < i ∧ s[i].toNat = 0 := (by (have a9 := t9; have a0 := t0; simp at a9 a0; omega))
             have E : Hid (eD s.data.toList = (0, 0, 4)) := (by (show eD s.data.toList = _; rw [HG.out, YJ _ _ _ _ _ hbad]))
             clear HG HG2 hbad
             go_wp2_with (fail)
             go_ret3
             exact ⟨by rw [E.out]; rfl, rfl⟩)
          | (have hbad : ¬ (i = 9 ∧ 1 < s[i].toNat ∨ 0 < i ∧ s[i].toNat = 0) := (by (have a9 := t9; have a0 := t0; simp at a9 a0; omega))
             have hlast : s[i].toNat < 128 := (by omega)
             have ST := Lib.hid (pK n i s[i].toNat (by omega) hn s[i].toNat_lt (by omega))
             have E : Hid (eD s.data.toList = (n + s[i].toNat % 128 * 128 ^ i, i + 1, 0)) := (by (show eD s.data.toList = _; rw [HG.out, CP _ _ _ _ _ hbad hlast]))
             clear HG HG2 hbad
             go_wp2_with (fail)
             go_ret3
             exact ⟨by rw [E.out, aDU, ← ST.out.1]; rfl, rfl⟩)
          | (have hbad : ¬ (i = 9 ∧ 1 < s[i].toNat ∨ 0 < i ∧ s[i].toNat = 0) := (by (have a9 := t9; have a0 := t0; simp at a9 a0; omega))
             have hlast : ¬ s[i].toNat < 128 := (by omega)
             have ST := Lib.hid (pK n i s[i].toNat (by omega) hn s[i].toNat_lt (by omega))
             have E : Hid (eD s.data.toList = wG g (i + 1) (n + s[i].toNat % 128 * 128 ^ i) (s.data.toList.drop (i + 1))) := (by (show eD s.data.toList = _; rw [HG.out, CQ _ _ _ _ _ hbad hlast]))
             clear HG hbad
             go_wp2_with (fail)
             go_round
             case rel => exact ⟨i + 1, _, by omega, by omega, ST.out.2.1, ST.out.2.2, lA ST.out.1, by go_num, by rw [HG2.out]; exact E⟩
             case measure => simp [intOf]; omega)
          | skip
    · obtain rfl : i = 10 := by omega
      have E : Hid (eD s.data.toList = (0, 0, 4)) := by
        show eD s.data.toList = _
        rw [hget.out]; rfl
      clear hget
      go_wp2_with (fail)
      go_ret3
      exact ⟨by rw [E.out]; rfl, rfl⟩
theorem adM (s:ByteArray) (hs:s.size≤maxLen) (n k e:Nat) (h:eD s.data.toList=(n,k,e)) (W:World):Calls Tryz.prog 248 #[.string s] W fun x w'=>x= .returned (.tuple #[.int .u64 (n:Int), .int .i64 (k:Int), .int .i64 (e:Int)])∧W=w':=
 (zO s hs W).mono fun x w' ⟨hx,hw⟩=>⟨by rw[hx,h];rfl,hw⟩
theorem adN: ∀ (f i n:Nat) (l:List UInt8),i+f=10→n<128^i→n<18446744073709551616→(∃ k m,wG f i n l=(n+m*128^i,i+k,0)∧1≤k∧k≤l.length∧n+m*128^i<18446744073709551616∧xI f m=l.take k∧(0<i→m≠0))∨wG f i n l=(0,0,3)∨wG f i n l=(0,0,4):=by
 intro f;induction f with
 |zero=>intro i n l hi _ _;exact .inr (.inr rfl)
 |succ f ih=>
  intro i n l hi hn hn2;cases l with
  |nil=>exact .inr (.inl rfl)
  |cons b r=>
   by_cases hbad:i=9∧1<b.toNat∨0<i∧b.toNat=0
   ·exact .inr (.inr (YJ _ _ _ _ _ hbad))
   ·have ST:=pK n i b.toNat (by omega) hn b.toNat_lt (by omega);by_cases hl:b.toNat<128
    ·refine .inl ⟨1,b.toNat, ?_,by omega,by simp, ?_, ?_,by omega⟩
     ·rw[CP _ _ _ _ _ hbad hl,gy hl]
     ·have:=ST.2.2;rwa [gy hl] at this
     ·rw[oD _ _ hl];simp
    ·rw[CQ _ _ _ _ _ hbad hl];rcases ih (i+1) (n+b.toNat%128*128^i) r (by omega) ST.2.1 ST.2.2 with⟨k,m,h1,h2,h3,h4,h5,h6⟩|h|h
     ·have e:n+b.toNat%128*128^i+m*128^(i+1)=n+(b.toNat%128+m*128)*128^i:=by
       rw[gu,an,ig m 128,ej 128,bw]
      rw[e] at h1 h4;have hm:=h6 (by omega);refine .inl ⟨k+1,b.toNat%128+m*128, ?_,by omega,by simp;omega,h4, ?_,by omega⟩
      ·rw[h1,bw,ij 1 k]
      ·rw[zH _ _ (by omega)];have e1:(b.toNat%128+m*128)/128=m:=by omega
       have e2:(b.toNat%128+m*128)%128+128=b.toNat:=by have:=b.toNat_lt;omega
       rw[e1,e2,h5];simp
     ·exact .inr (.inl h)
     ·exact .inr (.inr h)
theorem oF (l:List UInt8):(∃ k m,eD l=(m,k,0)∧1≤k∧k≤l.length∧m<18446744073709551616∧cA m=l.take k)∨eD l=(0,0,3)∨eD l=(0,0,4):=by
 rcases adN 10 0 0 l rfl (by decide) (by decide) with⟨k,m,h1,h2,h3,h4,h5,_⟩|h|h
 ·simp at h1 h4;exact .inl ⟨k,m,h1,h2,h3,h4,h5⟩
 ·exact .inr (.inl h)
 ·exact .inr (.inr h)
end Go.Proofs.YtbjalbcdbgcgdaaGreat.get
