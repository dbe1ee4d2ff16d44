/- FsOps, packed. -/
import Derived.Test.YtbjalbcdbgcgdaaGreatOQ
import Derived.Test.YtbjalbcdbgcgdaaGreatRows
import Derived.Test.YtbjalbcdbgcgdaaGreatO00
import Derived.Maps.Own
import Derived.Maps.OwnSet
import Derived.MapKept
import Derived.WideKeyPair
import Derived.WideKeyEntry
import Derived.Lib.Overlaps
import Derived.Lib.AppendZerosOnto
import Derived.Shelf.Strings.Builder1
import Derived.Shelf.Strings.Builder2
import Derived.Shelf.Small.Utf8
import Derived.Shelf.Small.Bits
import Derived.Shelf.Small.Strs
import Derived.Shelf.Strings.BuilderF
import Derived.Shelf.Strings.BuilderK
import Derived.Shelf.Strings.Search1
import Derived.Shelf.Strings.Search2
import Derived.Shelf.Strings.Search3
import Derived.Shelf.Strings.Count
import Derived.Shelf.Strings.Shaped
import Derived.Shelf.Strings.Prefix
import Derived.Shelf.Strings.Runes
import Derived.Shelf.Strings.IndexAny
import Derived.Shelf.Strings.AsciiSet
import Derived.Shelf.Strings.IndexAnyAll
import Derived.Shelf.Bits.Mul64
import Derived.Shelf.Strings.Repeat
import Derived.Test.YtbjalbcdbgcgdaaGreatProg
import Derived.ArgAppend
import Derived.Laws.RangeAny
import Derived.Laws.Runes
import Derived.Scope
import Derived.Lib.Bytealg
open Go.Proofs.Tryz renaming prog->lk
open List renaming Pairwise.nil->ft,Perm.append_left->acd,Perm.refl->ja,Perm.trans->acn,append_assoc->fu,append_nil->ke,append_of_mem->abv,cons_append->dw,count->abr,count_eq_zero->acj,eq_nil_of_length_eq_zero->bp,ext_getElem?->ep,filter_cons->bw,find?_eq_none->ach,flatMap_cons->abw,getD->ada,getD_eq_getElem?_getD->my,getElem?_append->dr,getElem?_drop->aw,getElem?_eq_getElem->ak,getElem?_eq_none->je,getElem?_eq_some_iff->aj,getElem?_map->dp,getElem?_of_mem->abl,getElem?_range->abn,getElem?_set->ic,getElem?_take->au,getElem?_take_of_lt->abm,getElem_cons_drop->aca,length_append->ae,length_cons->dv,length_drop->bq,length_filter_le->abu,length_map->gp,length_nil->gr,length_range->abx,length_replicate->abp,length_set->n5,length_take->ar,mapM_cons->ki,map_cons->gd,map_nil->gu,map_take->jj,map_toArray->fc,mem_append->ei,mem_cons->al,mem_cons_of_mem->a8,mem_cons_self->bu,mem_iff_getElem?->l9,mem_map->fa,mem_map_of_mem->acg,mem_of_getElem?->jg,mem_of_mem_take->ll,mem_range->ace,mem_reverse->acm,mem_singleton->eh,nil_append->dz,not_mem_nil->ck,pairwise_cons->an,pairwise_iff_getElem->abz,perm_cons->acs,perm_middle->abo,range->mn,replicate->du,take_append_drop->gl,take_length->mz,take_of_length_le->bd,take_succ_cons->aas,take_succ_eq_append_getElem->abt,take_take->aco,take_zero->acb
open Nat renaming add_mul->ff,add_zero->fl,div_div_eq_div_mul->aaj,le_refl->df,le_trans->gm,lt_of_lt_of_le->di,lt_or_ge->ig,min->acp,min_eq_left->j9,mul_assoc->aae,mul_comm->ij,mul_le_mul_right->cr,mul_one->gy,pow_le_pow_right->mr,pow_succ->n8,shiftRight_eq_div_pow->aby,sub_mul->acz,sub_self->ku,testBit_zero->ack,two_pow_pos->aaf,zero_add->dj,zero_le->fe,zero_mul->acx
open Int renaming le_refl->jy,mul_add->acy,toNat_natCast->dc
open Option renaming map_none->eo,map_some->ej,some.inj->a7,some.injEq->aq
open UInt8 renaming lt_iff_toNat_lt->abq,toNat_inj->abf
open Decidable renaming byContradiction->acv,em->adf
open ByteArray renaming get!->adb,getElem_eq_getElem_data->aba,mk->ade
open Array renaming getElem?_eq_none->fy,getElem?_eq_some_iff->dn
open Bool renaming and_eq_true->ir,or_eq_true->j8
open Go.Result renaming andThen->mw,andThen_ok->aa
open Go.Sem renaming run->km,run_bind->ab,run_pure->ah
open Go.Value renaming cells->aaa,int->gh,oneCell'->a6,slice->jw
open Go.IntKind renaming u32->j0,u64->jz,u8->kz
open Go.Builtin renaming clear_->acq,copy_->acu,zeroCells->fq
open Go.World renaming frozen?->acf,ownsMap_made->aci,setCells->acr,shape?->acw
open Go.Oper renaming upon->bf,wp->bj
open Go.Lit renaming int->kg
set_option linter.unusedVariables false
set_option maxRecDepth 100000
set_option maxHeartbeats 8000000
namespace Go.Proofs.YtbjalbcdbgcgdaaGreat
namespace sum
open Go.RowKit bO
def EX (c:BitVec 32):BitVec 32:=if c.getLsbD 0 then (c>>>1)^^^2197175160#32 else c>>>1
def steps:Nat→BitVec 32→BitVec 32
 |0,c=>c
 |k+1,c=>EX (steps k c)
def rF (c:BitVec 32) (b:UInt8):BitVec 32:=steps 8 (c^^^BitVec.ofNat 32 b.toNat)
def QW (c:BitVec 32) (l:List UInt8):BitVec 32:=l.foldl rF c
def QX (c:BitVec 32) (l:List UInt8):BitVec 32:= ~~~ QW (~~~ c) l
theorem aTX (c:BitVec 32):(c.toNat:Int)/(2:Int)=((c>>>1).toNat:Int):=by
 rw[BitVec.toNat_ushiftRight,aby];omega
theorem aqL (a b:BitVec 32):bits BinOp.xor j0 (a.toNat:Int) (b.toNat:Int)=((a^^^b).toNat:Int):=by
 rw[u32_xor_nat _ _ a.isLt b.isLt,BitVec.toNat_xor]
theorem lsb (c:BitVec 32):(bits BinOp.and j0 (c.toNat:Int) 1==1)=c.getLsbD 0:=by
 rw[show (1:Int)=((1:Nat):Int) from rfl,u32_and_nat _ _ c.isLt Z9,nat_mask1];rw[BitVec.getLsbD,ack,Bool.eq_iff_iff,beq_iff_eq,decide_eq_true_iff];omega
theorem agH (c:BitVec 32) (W:World):Calls lk 347 #[.int .u32 (c.toNat:Int)] W fun e w'=>e= .returned (.int .u32 ((EX c).toNat:Int))∧W=w':=by
 have hlt:=c.isLt;have hlsb:=lsb c;have HX:Hid (bits BinOp.xor j0 ((c.toNat:Int)/2) 2197175160=(((c>>>1)^^^2197175160#32).toNat:Int)):=by
  show _=_;rw[aTX,show (2197175160:Int)=((2197175160#32).toNat:Int) from rfl,aqL]
 have HS:=Lib.hid (aTX c);cases hb:c.getLsbD 0
 ·have HB:=Lib.hid hb;rw[hb] at hlsb;clear hb
  go_enter Tryz.func347,Tryz.ntmps347
  go_wp2_with (fail)
  go_ret
  exact⟨DV (by rw[EX,Jf (by rw[HB.out];simp)];exact HS.out),rfl⟩
 ·have HB:=Lib.hid hb;rw[hb] at hlsb;clear hb
  go_enter Tryz.func347,Tryz.ntmps347
  go_wp2_with (fail)
  go_ret
  exact⟨DV (by rw[EX,Jg HB.out];exact HX.out),rfl⟩
theorem aqM (c:BitVec 32):bits BinOp.xor j0 j0.max (c.toNat:Int)=((~~~ c).toNat:Int):=by
 have e:j0.max=((BitVec.allOnes 32).toNat:Int):=Z9
 rw[e,aqL,BitVec.xor_comm,BitVec.xor_allOnes]
theorem aQM (c:BitVec 32) (b:UInt8):bits BinOp.xor j0 (c.toNat:Int) ((b.toNat:Int)%4294967296)=((c^^^BitVec.ofNat 32 b.toNat).toNat:Int):=by
 have hb:=b.toNat_lt;have e:(b.toNat:Int)%4294967296=((BitVec.ofNat 32 b.toNat).toNat:Int):=by
  rw[BitVec.toNat_ofNat];omega
 rw[e,aqL]
theorem YU (c:BitVec 32) (l:List UInt8) (b:UInt8):QW c (l++[b])=rF (QW c l) b:=by simp [QW]
theorem aBU (c:BitVec 32) (s:ByteArray) (hs:s.size≤1000000000000000) (W:World):
  Calls lk 330 #[.int .u32 (c.toNat:Int), .string s] W fun e w'=>e= .returned (.int .u32 ((QX c s.data.toList).toNat:Int))∧W=w':=by
 obtain⟨c',hc'⟩: ∃ c',c'= ~~~ c:=⟨_,rfl⟩;have hn:=aqM c;rw[←hc'] at hn;have HN:=Lib.hid hn;have HC:=Lib.hid hc';clear hn hc'
 go_enter Tryz.func330,Tryz.ntmps330
 go_wp2_with (fail)
 rw[HN.out]
 go_loop [0,5,10,19] (fun x _ y _=> ∃ k:Nat,k≤s.size∧x= .int .u32 ((QW c' (s.data.toList.take k)).toNat:Int)∧y= .int .i64 k) (fun _ _ y _=>s.size-(intOf y).toNat)
 case atStart=>exact⟨0,fe _,rfl,rfl⟩
 case round=>
  obtain⟨k,hk,rfl,rfl⟩:=hrel;by_cases hlt:k<s.size
  ·have e:s.data.toList.take (k+1)=s.data.toList.take k++[s[k]]:=by
    rw[abt Z2];rfl
   have HE:Hid (QW c' (s.data.toList.take (k+1))=rF (QW c' (s.data.toList.take k)) s[k]):=by
    show _=_;rw[e,YU]
   clear e;obtain⟨d,hd⟩: ∃ d,d=QW c' (s.data.toList.take k):=⟨_,rfl⟩;rw[←hd] at HE ⊢;clear hd;obtain⟨x0,hx0⟩: ∃ x0,x0=d^^^BitVec.ofNat 32 s[k].toNat:=⟨_,rfl⟩;have hb:=aQM d s[k];rw[←hx0] at hb;have HB:=Lib.hid hb;have HX:=Lib.hid hx0;clear hb hx0
   go_wp2_with (fail)
   rw[HB.out]
   go_loop [0,19] (fun x y=> ∃ j:Nat,j≤8∧x= .int .u32 ((steps j x0).toNat:Int)∧y= .int .i64 j) (fun _ y=>8-(intOf y).toNat)
   case atStart=>exact⟨0,Z8,rfl,rfl⟩
   case round=>
    obtain⟨j,hj,rfl,rfl⟩:=hrel;obtain⟨g,hg⟩: ∃ g,g=steps j x0:=⟨_,rfl⟩;have HG:=Lib.hid hg;rw[←hg];clear hg;by_cases hj8:j<8
    ·go_wp2_with (go_at_call 347;refine (agH g _).mono ?_;rintro e w' ⟨rfl,rfl⟩)
     go_round
     case rel=>exact⟨j+1,Z8,by rw[steps, ←HG.out],by go_num⟩
     case measure=>simp [intOf];omega
    ·obtain rfl:j=8:=Z8
     go_wp2_with (fail)
     go_round
     case rel=>exact⟨k+1,Z8,by rw[HE.out,rF, ←HX.out, ←HG.out],by go_num⟩
     case measure=>simp [intOf];omega
  ·obtain rfl:k=s.size:=Z8
   have HE:Hid (s.data.toList.take s.size=s.data.toList):=bd ZR;rw[HE.out]
   go_wp2_with (fail)
   go_ret
   exact⟨by rw[QX, ←HC.out];exact DV (aqM _),rfl⟩
end sum
namespace sum
open Go.RowKit bO
def MT (k i:Nat):Value:=if i<k then .int .u32 ((steps 8 (BitVec.ofNat 32 i)).toNat:Int) else .int .u32 0
def nM (k:Nat):Array Value:=Array.ofFn (n:=256) fun i=>MT k i.val
theorem mX (k:Nat):(nM k).size=256:=by simp [nM]
theorem EY (k i:Nat) (h:i<256):(nM k)[i]? =some (MT k i):=by simp [nM,h]
theorem auI (k i:Nat):(MT k i).oneCell'=true:=by
 unfold MT;by_cases h:i<k
 ·rw[Jg h];simp only[a6]
 ·rw[Jf h];simp only[a6]
theorem agI (k:Nat): ∀ v∈(nM k).toList,v.oneCell'=true:=by
 intro v hv;obtain⟨i,hi⟩:=l9.1 hv;have h2:(nM k)[i]? =some v:=by simpa using hi
 have h3:i<256:=by
  rcases ig i 256 with h|h
  ·exact h
  ·rw[fy (by rw[mX];exact h)] at h2;cases h2
 rw[EY k i h3] at h2;rw[←a7 h2];exact auI k i
theorem aBV (k:Nat):(nM k).setIfInBounds k (.int .u32 ((steps 8 (BitVec.ofNat 32 k)).toNat:Int))=nM (k+1):=by
 apply Array.ext_getElem?;intro i;rw[Array.getElem?_setIfInBounds];by_cases hi:i<256
 ·rw[EY _ _ hi,EY _ _ hi];by_cases h:k=i
  ·subst h;simp [MT,mX,hi]
  ·have e:(i<k)↔(i<k+1):=Z8
   simp [h,MT,e]
 ·have e1:(nM k)[i]? =none:=fy (by rw[mX];omega);have e2:(nM (k+1))[i]? =none:=fy (by rw[mX];omega);rw[e1,e2];by_cases h:k=i
  ·subst h;simp [mX,hi]
  ·simp [h]
theorem aBW:(lk.info? 416).map (·.zero)=some (some (.agg (nM 0))):=Jd
theorem aQK:(lk.info? 416).map (·.size)=some 256:=Jd
theorem auJ (W:World):
  Calls lk 331 #[] W fun e w'=>e= .returned (.agg (nM 256))∧Below W.heap.size W w':=by
 have hu70:=Tryz.underlying416
 go_enter Tryz.func331,Tryz.ntmps331
 go_wp2_with (with_reducible refine bO.vD rfl 416 rfl (.agg (nM 0)) aBW ?_)
 have hb0:Below W.heap.size W (W.alloc (.cells (nM 0) 416)):=(Below.refl _ _).alloc (df _) _;have hg0:=heap_alloc_new W (.cells (nM 0) 416)
 go_loopw [1,2,3,8] (fun _ _ x _ wr=> ∃ k:Nat,k≤256∧x= .int .i64 k∧wr.heap[W.heap.size]? =some (.cells (nM k) 416 (0,0))∧Below W.heap.size W wr) (fun _ _ x _ _=>256-(intOf x).toNat)
 case atStart=>exact⟨0,Z8,rfl,hg0,hb0⟩
 case round=>
  clear hb0 hg0;obtain⟨k,hk,rfl,hg,hb⟩:=hrel;by_cases hlt:k<256
  ·obtain⟨c,hc⟩: ∃ c,c=BitVec.ofNat 32 k:=⟨_,rfl⟩;have hck:c.toNat=k:=by rw[hc,BitVec.toNat_ofNat];omega
   have HK:Hid ((k:Int)=(c.toNat:Int)):=congrArg Int.ofNat hck.symm;have HC:=Lib.hid hc;have HG:=Lib.hid hg;have hcell:wr.cell? ⟨W.heap.size,k,none⟩=some (MT k k):=by rw[cell_of_row _ _ _ _ _ _ hg,EY _ _ hlt]
   have hfro:=frozen_of_row _ _ k _ _ hg;have hltI:(k:Int)<256:=Z8
   clear hck hc hg
   go_wp2_with (fail)
   go_loop [2,8] (fun x y=> ∃ j:Nat,j≤8∧x= .int .u32 ((steps j c).toNat:Int)∧y= .int .i64 j) (fun _ y=>8-(intOf y).toNat)
   case atStart=>exact⟨0,Z8,nJ HK.out,rfl⟩
   case round=>
    obtain⟨j,hj,rfl,rfl⟩:=hrel;obtain⟨g,hg⟩: ∃ g,g=steps j c:=⟨_,rfl⟩;have HJ:=Lib.hid hg;rw[←hg];clear hg;by_cases hj8:j<8
    ·go_wp2_with (go_at_call 347;refine (agH g _).mono ?_;rintro e w' ⟨rfl,rfl⟩)
     go_round
     case rel=>exact⟨j+1,Z8,by rw[steps, ←HJ.out],by go_num⟩
     case measure=>simp [intOf];omega
    ·obtain rfl:j=8:=Z8
     go_wp2_with (fail)
     go_roundw
     case rel=>
      refine⟨k+1,Z8,by go_num, ?_,hb.setCell (p:=⟨W.heap.size,k,none⟩) (df _) _⟩;rw[heap_setCell_same _ _ _ _ _ _ HG.out,HJ.out,HC.out,aBV]
     case measure=>simp [intOf];omega
  ·obtain rfl:k=256:=Z8
   go_wp2_with (first
    |(with_reducible refine wpList_load_row rfl 416 _ rfl W.heap.size rfl _ (nM 256) _ _ hg hu70 rfl ZP ?_)
    | (with_reducible show wpList _ _ _ ({ dst := none, op := Op.store 416 (.tmp 0) (.tmp 17), type := _, pos := _, after := _, guard := none } :: _) _ _; (refine bO.wpList_store_row rfl 416 _ _ rfl W.heap.size rfl _ _ (nM 256) hg rfl rfl ZP (agI 256) ?_)))
   refine bodyPost_ret_by (v:= .agg (nM 256)) (results_cell_row (ty:=416) rfl _ _ W.heap.size _ (nM 256) _ _ rfl (setRow_heap _ _ _ _ _ _ hg) hu70 rfl ZP) rfl ⟨rfl,DX hb (df _) _⟩
theorem auK (a b:BitVec 32):EX (a^^^b)=EX a^^^EX b:=by
 unfold EX;rw[BitVec.getLsbD_xor,BitVec.ushiftRight_xor_distrib];cases a.getLsbD 0<;>cases b.getLsbD 0<;>simp
 ·rw[BitVec.xor_assoc]
 ·rw[BitVec.xor_assoc,BitVec.xor_comm (b>>>1), ←BitVec.xor_assoc]
 ·rw[BitVec.xor_assoc (a>>>1),BitVec.xor_comm (b>>>1), ←BitVec.xor_assoc _ _ (b>>>1),BitVec.xor_self,BitVec.zero_xor]
theorem auL (k:Nat) (a b:BitVec 32):steps k (a^^^b)=steps k a^^^steps k b:=by
 induction k with
 |zero=>rfl
 |succ k ih=>rw[steps,steps,steps,ih,auK]
theorem agJ (x:BitVec 32): ∀ k,(∀ i,i<k→x.getLsbD i=false)→steps k x=x>>>k:=by
 intro k;induction k with
 |zero=>intro _;simp [steps]
 |succ k ih=>
  intro h;rw[steps,ih (fun i hi=>h i Z8),EX,Jf (by simp [h k Z8]),BitVec.shiftRight_add]
theorem auM (c:BitVec 32) (b:UInt8):rF c b=(c>>>8)^^^steps 8 (BitVec.ofNat 32 ((c.toNat%256)^^^b.toNat)):=by
 have e:c^^^BitVec.ofNat 32 b.toNat=((c>>>8)<<<8)^^^BitVec.ofNat 32 ((c.toNat%256)^^^b.toNat):=by
  have hb:=b.toNat_lt;apply BitVec.eq_of_getLsbD_eq;intro i hi;have h8: ∀ j,8≤j→b.toNat.testBit j=false:=fun j hj=>Nat.testBit_lt_two_pow (di hb (mr Z9 hj))
  simp only[BitVec.getLsbD_xor,BitVec.getLsbD_shiftLeft,BitVec.getLsbD_ushiftRight,BitVec.getLsbD_ofNat,hi,decide_true,Bool.true_and,Nat.testBit_xor];rw[show (256:Nat)=2^8 from rfl,Nat.testBit_mod_two_pow];by_cases h:i<8
  ·simp [h,BitVec.getLsbD]
  ·have e2:8+(i-8)=i:=Z8
   simp [h,e2,h8 i Z8]
 rw[rF,e,auL,agJ _ 8 (fun i hi=>by simp [hi])];congr 1;apply BitVec.eq_of_getLsbD_eq;intro i hi;simp only[BitVec.getLsbD_shiftLeft,BitVec.getLsbD_ushiftRight];have e3:8+i-8=i:=Z8
 by_cases h:8+i<32
 ·simp [h]
 ·simp [BitVec.getLsbD_of_ge _ _ (show 32≤8+i by omega)]
theorem aBX (c:BitVec 32) (s:ByteArray) (hs:s.size≤1000000000000000) (W:World):
  Calls lk 292 #[.int .u32 (c.toNat:Int), .string s] W fun e w'=>e= .returned (.int .u32 ((QX c s.data.toList).toNat:Int))∧Below W.heap.size W w':=by
 have hu70:=Tryz.underlying416;by_cases h32:(s.size:Int)<32
 ·go_enter Tryz.func292,Tryz.ntmps292
  go_wp2_with (fail)
  refine (aBU c s hs _).mono ?_;rintro e w' ⟨rfl,rfl⟩
  go_wp2_with (fail)
  go_ret
  exact⟨rfl,Below.refl _ _⟩
 ·obtain⟨c',hc'⟩: ∃ c',c'= ~~~ c:=⟨_,rfl⟩;have hn:=aqM c;rw[←hc'] at hn;have HN:=Lib.hid hn;have HC:=Lib.hid hc';clear hn hc'
  go_enter Tryz.func292,Tryz.ntmps292
  go_wp2_with (fail)
  refine (auJ _).mono ?_;rintro e w1 ⟨rfl,hb1⟩
  go_wp2_with (first
    |(with_reducible refine bO.vD rfl 416 rfl (.agg (nM 0)) aBW ?_)
    | (with_reducible refine bO.wpList_store_row rfl 416 _ _ rfl w1.heap.size rfl _ _ (nM 256) (heap_alloc_new _ _) rfl ?hs ZP (agI 256) ?_))
  case hs=>rw[mX];exact (mX 0).symm
  have hh:((w1.alloc (.cells (nM 0) 416)).setRow w1.heap.size (nM 256)).heap[w1.heap.size]? =some (.cells (nM 256) 416 (0,0)):=setRow_heap _ _ _ _ _ _ (heap_alloc_new _ _);have hb2:Below W.heap.size W ((w1.alloc (.cells (nM 0) 416)).setRow w1.heap.size (nM 256)):=DX (hb1.alloc hb1.size _) hb1.size _;generalize (w1.alloc (.cells (nM 0) 416)).setRow w1.heap.size (nM 256)=wx at hh hb2 ⊢;generalize w1.heap.size=G at hh ⊢;have HT:Hid (∀ j,j<256→wx.cell? ⟨G,j,none⟩=some (.int .u32 ((steps 8 (BitVec.ofNat 32 j)).toNat:Int))):=fun j hj=>by
   rw[cell_of_row _ _ _ _ _ _ hh,EY _ _ hj,MT,Jg hj]
  clear hh;rw[HN.out]
  go_loop [0,6,18] (fun x _ y=> ∃ k:Nat,k≤s.size∧x= .int .u32 ((QW c' (s.data.toList.take k)).toNat:Int)∧y= .int .i64 k) (fun _ _ y=>s.size-(intOf y).toNat)
  case atStart=>exact⟨0,fe _,rfl,rfl⟩
  case round=>
   obtain⟨k,hk,rfl,rfl⟩:=hrel;by_cases hlt:k<s.size
   ·have e:s.data.toList.take (k+1)=s.data.toList.take k++[s[k]]:=by
     rw[abt Z2];rfl
    obtain⟨d,hd⟩: ∃ d,d=QW c' (s.data.toList.take k):=⟨_,rfl⟩;have HE:Hid (QW c' (s.data.toList.take (k+1))=rF d s[k]):=by
     show _=_;rw[e,YU, ←hd]
    rw[←hd];clear e hd;have hj:d.toNat%256^^^s[k].toNat<256:=Nat.xor_lt_two_pow (n:=8) Z8 s[k].toNat_lt;have hi:bits BinOp.xor kz ((d.toNat:Int)%256) (s[k].toNat:Int)=((d.toNat%256^^^s[k].toNat:Nat):Int):=by
     rw[←u8_xor_nat _ _ Z8 s[k].toNat_lt];rfl
    have hf:=auM d s[k];obtain⟨j,hjj⟩: ∃ j,j=d.toNat%256^^^s[k].toNat:=⟨_,rfl⟩;rw[←hjj] at hj hi hf;obtain⟨g,hg⟩: ∃ g,g=steps 8 (BitVec.ofNat 32 j):=⟨_,rfl⟩;have hcell:=HT.out j hj;rw[←hg] at hcell hf;have hd8:(d.toNat:Int)/(256:Int)=((d>>>8).toNat:Int):=by
     rw[BitVec.toNat_ushiftRight,aby];omega
    have hx:=aqL (d>>>8) g;rw[←hd8, ←hf] at hx;have HF:=Lib.hid hx;have hjI:(j:Int)<256:=Z8
    clear hjj hf hg hd8 hx hj
    go_wp2_with (fail)
    go_round
    case rel=>exact⟨k+1,Z8,by rw[HE.out];exact nJ HF.out,by go_num⟩
    case measure=>simp [intOf];omega
   ·obtain rfl:k=s.size:=Z8
    have HE:Hid (s.data.toList.take s.size=s.data.toList):=bd ZR;rw[HE.out]
    go_wp2_with (fail)
    go_ret
    exact⟨by rw[QX, ←HC.out];exact DV (aqM _),hb2⟩
theorem aKI (s:ByteArray) (hs:s.size≤1000000000000000) (W:World):Calls lk 247 #[.string s] W fun e w'=>e= .returned (.int .u32 ((QX 0 s.data.toList).toNat:Int))∧Below W.heap.size W w':=by
 go_enter Tryz.func247,Tryz.ntmps247
 go_wp2_with (fail)
 refine (aBX 0#32 s hs _).mono ?_;rintro e w' ⟨rfl,hb⟩
 go_wp2_with (fail)
 go_ret
 exact⟨rfl,hb⟩
end sum
namespace bA
open Go.RowKit bO sl
attribute [local irreducible] box own sl bL aH bJ Qt cN cM dG dL eQ
def lU (cells:Nat) (at':Int) (text:ByteArray):Int:=if at'<0∨(cells:Int)≤at' then 1 else if 1024<text.size then 2 else 0
theorem oX (cells:Nat) (at':Int) (text:ByteArray):
  Ct lk 157 [.int .i64 cells, .int .i64 at', .string text] [] fun v H'=>v= .int .i64 (lU cells at' text)∧H'=[]:=by
 (refine Ye Tryz.func157 Tryz.ntmps157 ?_;intro Fr);(repeat' (first|refine Y5 ?_|(refine Wb ?_;intro b)|(refine Wq ?_;intro q)|(refine Ws ?_ ?_<;>intro h)|fail));all_goals
  refine qE rfl JD [] ?_ MN;refine⟨?_,rfl⟩;unfold lU;(repeat' split)<;>first|rfl|omega
theorem FF (a w:Option Addr) (ca cw:Nat) (cs:List ByteArray) (ps:List (Int×ByteArray)) (hc:cs.length≤1000000) (hp:ps.length≤1000000):
  Ct lk 173 [.agg #[.slice a cs.length ca, .slice w ps.length cw]] [sl 1 (.slice a cs.length ca) (cs.map fS),sl 2 (.slice w ps.length cw) (ps.map fP)] fun v H'=> ∃ qa ca qw cw,v= .agg #[.slice qa cs.length ca, .slice qw ps.length cw]∧H'=[own (.slice qa cs.length ca) 9 1 cs.length (flat fS cs),own (.slice qw ps.length cw) 130 2 ps.length (flat fP ps)]:=by
 (refine Ye Tryz.func173 Tryz.ntmps173 ?_;intro Fr);(repeat' (first|refine Y5 ?_|(refine Wb ?_;intro b)|(refine Wq ?_;intro q)|(refine Ws ?_ ?_<;>intro h)|fail));refine mD (Hq:=[_,_,_]) [1,2,3] [7] rfl Jd ?_;(refine oJ [0,1,3,4] ?_;(repeat (first|(apply qR;(focus rfl);(focus exact wt);(focus kernel_rfl);(focus exact kA);(focus rfl);(focus exact qta))|(apply uA;(focus rfl);(focus rfl);(focus rfl);(focus kernel_rfl);(focus exact kA);(focus rfl))));refine tZ ?_);(first|refine qG 2 Jd (YD 2 Jb wt Jb Zd ?_)|refine qG 2 Jd (aqI 2 Jb wt Zd ?_));rintro _ _ ⟨qa',ca',rfl,rfl⟩;refine⟨Zw, ?_⟩;(first|refine qG 5 Jd (YD 5 Jb wt Jb Zd ?_)|refine qG 5 Jd (aqI 5 Jb wt Zd ?_));rintro _ _ ⟨qb',cb',rfl,rfl⟩;refine⟨Zw, ?_⟩;(refine oJ [6] ?_;(repeat (first|(apply qR;(focus rfl);(focus exact wt);(focus kernel_rfl);(focus exact kA);(focus rfl);(focus exact qta))|(apply uA;(focus rfl);(focus rfl);(focus rfl);(focus kernel_rfl);(focus exact kA);(focus rfl))));refine tZ ?_);(first|refine qG 7 Jd (YD 7 Jb wt Jb (by exact Zj) ?_)|refine qG 7 Jd (aqI 7 Jb wt (by exact Zj) ?_));rintro _ _ ⟨rfl,rfl⟩;refine⟨Zw, ?_⟩;refine tW Jd ?_;refine dE ?_;exact Ea (x:=⟨_,_,_,_,rfl,rfl⟩)
def dF (n:Nat):List (Int×ByteArray)→Int
 |[]=>0
 |p::ps=>if lU n p.1 p.2≠0 then lU n p.1 p.2 else dF n ps
def oY (s:ByteArray):Bool:=decide (1024<s.size)
def bZ (cs:List ByteArray) (ps:List (Int×ByteArray)):Int:=
 if cs.length<1∨128<cs.length then 1 else if cs.any oY=true then 2 else if dF cs.length ps≠0 then dF cs.length ps else if 400<ps.length then 2 else 0
theorem agR {n k:Nat} {ps:List (Int×ByteArray)} {p:Int×ByteArray} (hp:ps[k]? =some p) (h:dF n (ps.take k)=0):dF n (ps.take (k+1))=lU n p.1 p.2∧(lU n p.1 p.2≠0→dF n ps=lU n p.1 p.2):=by
 induction ps generalizing k with
 |nil=>simp at hp
 |cons q ps ih=>
  cases k with
  |zero=>
   simp at hp;subst hp;simp only[aas,acb,dF];by_cases h0:lU n q.1 q.2=0<;>simp [h0]
  |succ k=>
   simp only[aas,dF] at h ⊢;split at h
   ·rename_i h1;exact absurd h h1
   ·rename_i h1;rw[Jf h1,Jf h1];exact ih ZK h
theorem amE {n k:Nat} {ps:List (Int×ByteArray)} (hk:ps.length≤k) (h:dF n (ps.take k)=0):dF n ps=0:=by
 rw[bd hk] at h;exact h
theorem bP (a w:Option Addr) (ca cw:Nat) (cs:List ByteArray) (ps:List (Int×ByteArray)) (hc:cs.length≤maxLen) (hp:ps.length≤maxLen):
  Ct lk 78 [.agg #[.slice a cs.length ca, .slice w ps.length cw]] [sl 1 (.slice a cs.length ca) (cs.map fS),sl 2 (.slice w ps.length cw) (ps.map fP)] fun v H'=>v= .int .i64 (bZ cs ps)∧H'=[]:=by
 unfold maxLen at hc hp;(refine Ye Tryz.func78 Tryz.ntmps78 ?_;intro Fr);(repeat' (first|refine Y5 ?_|(refine Wb ?_;intro b)|(refine Wq ?_;intro q)|(refine Ws ?_ ?_<;>intro h)|fail))
 ·exact Ea (x:=⟨by unfold bZ;rw[Jg Z8],rfl⟩)
 ·exact Ea (x:=⟨by unfold bZ;rw[Jg Z8],rfl⟩)
 (refine cU (σ:=Nat) (fun k=>k≤cs.length∧(cs.take k).any oY=false) (fun k=>[(21, .int .i64 (k:Int))]) (fun k=>cs.length-k) (0) Ja Ze (fun k ⟨hk,hb⟩=> ?_);refine Da ?_);rcases dW cs k with⟨s,hs,hlt⟩|zw
 ·(repeat' (first|refine Y5 ?_|(refine Wb ?_;intro b)|(refine Wq ?_;intro q)|(refine Ws ?_ ?_<;>intro h)|fail))
  ·have zv:oY s=true:=by simp only[oY,decide_eq_true_eq];omega
   exact Ea (x:=⟨by unfold bZ;rw[Jf Z8,Jg (aPV hs zv)],rfl⟩)
  ·refine Ee (k+1) ?_ ?_
   ·exact⟨Z8,aAW hs hb (by simp only[oY,decide_eq_false_iff_not];omega)⟩
   ·show cs.length-(k+1)<cs.length-k;omega
 ·have zy:=aJZ zw hb;clear hb;refine dE ?_;(refine cU (σ:=Nat) (fun k=>k≤ps.length∧dF cs.length (ps.take k)=0) (fun k=>[(32, .int .i64 (k:Int))]) (fun k=>ps.length-k) (0) (by simp [dF]) Ze (fun k2 ⟨hk2,hb⟩=> ?_);refine Da ?_);rcases dW ps k2 with⟨p,hs,hlt⟩|zx
  ·obtain⟨f1,f2⟩:=agR hs hb;(repeat' (first|refine Y5 ?_|(refine Wb ?_;intro b)|(refine Wq ?_;intro q)|refine Wc (oX ..) ?_|(refine Ws ?_ ?_<;>intro h)|fail))
   ·exact Ea (x:=⟨by unfold bZ;rw[Jf Z8,Jf (by rw[zy];simp),f2 ‹_›,Jg ‹_›],rfl⟩)
   ·refine Ee (k2+1) ?_ ?_
    ·exact⟨Z8,by rw[f1];assumption⟩
    ·show ps.length-(k2+1)<ps.length-k2;omega
  ·have h0:=amE zx hb;clear hb;(repeat' (first|refine Y5 ?_|(refine Wb ?_;intro b)|(refine Wq ?_;intro q)|(refine Ws ?_ ?_<;>intro h)|fail))
   ·exact Ea (x:=⟨by unfold bZ;rw[Jf Z8,Jf (by rw[zy];simp),Jf (by rw[h0];simp),Jg Z8],rfl⟩)
   ·exact Ea (x:=⟨by unfold bZ;rw[Jf Z8,Jf (by rw[zy];simp),Jf (by rw[h0];simp),Jf Z8],rfl⟩)
theorem agS {n:Nat} {ps:List (Int×ByteArray)} (h:dF n ps=0): ∀ p∈ps,lU n p.1 p.2=0:=by
 induction ps with
 |nil=>intro p hp;cases hp
 |cons q ps ih=>
  simp only[dF] at h;split at h
  ·rename_i h1;exact absurd h h1
  ·rename_i h1;intro p hp;rcases al.1 hp with rfl|hp
   ·simpa using h1
   ·exact ih h p hp
theorem lI {n:Nat} {ps:List (Int×ByteArray)} (h: ∀ p∈ps,lU n p.1 p.2=0):dF n ps=0:=by
 induction ps with
 |nil=>rfl
 |cons q ps ih=>
  simp only[dF];rw[Jf (by simp [h q bu])];exact ih fun p hp=>h p (a8 _ hp)
structure Good (cs:List ByteArray) (ps:List (Int×ByteArray)):Prop where
 n0:1≤cs.length
 n1:cs.length≤128
 cells: ∀ s∈cs,s.size≤1024
 agT: ∀ p∈ps,lU cs.length p.1 p.2=0
 wait:ps.length≤400
theorem xL {n:Nat} {a:Int} {t:ByteArray}:lU n a t=0↔0≤a∧a<n∧t.size≤1024:=by
 unfold lU;(repeat' split)<;>constructor<;>intro h<;>first|omega|rfl
theorem OZ {cs:List ByteArray} {ps:List (Int×ByteArray)} (h:bZ cs ps=0):Good cs ps:=by
 unfold bZ at h;split at h
 ·cases h
 ·rename_i h1;split at h
  ·cases h
  ·rename_i h2;split at h
   ·rename_i h3;exact absurd h h3
   ·rename_i h3;split at h
    ·cases h
    ·rename_i h4;refine⟨Z8,Z8,fun s hs=> ?_,agS (by simpa using h3),Z8⟩;have h5: ¬ ∃ x∈cs,oY x=true:=by simpa using h2
     have h6:oY s=false:=by
      cases hb:oY s with
      |false=>rfl
      |true=>exact absurd ⟨s,hs,hb⟩ h5
     simp only[oY,decide_eq_false_iff_not] at h6;omega
theorem vN {cs:List ByteArray} {ps:List (Int×ByteArray)} (h:Good cs ps):bZ cs ps=0:=by
 unfold bZ;rw[Jf (by have:=h.n0;have:=h.n1;omega),Jf ?_,Jf (by rw[lI h.agT];simp),Jf (by have:=h.wait;omega)];simp only[List.any_eq_true,not_exists,not_and];intro s hs hb;have:=h.cells s hs;simp only[oY,decide_eq_true_eq] at hb;omega
end bA
namespace bA
open Go.RowKit bO sl
attribute [local irreducible] box own sl bL aH bJ Qt cN cM dG dL eQ
def rJ (cs:List ByteArray) (ps:List (Int×ByteArray)) (at':Int):ByteArray:=
 match ps.reverse.find? fun p=>p.1==at' with
 |some p=>p.2
 |none=>cs.getD at'.toNat ⟨#[]⟩
theorem aKK {cs:List ByteArray} {ps:List (Int×ByteArray)} {at':Int} {j:Nat} {p:Int×ByteArray} (hp:ps[j]? =some p) (hd: ∀ q∈ps.drop (j+1),q.1≠at') (he:p.1=at'):rJ cs ps at'=p.2:=by
 have e:ps=ps.take j++p::ps.drop (j+1):=by
  have h1:=aj.1 hp;obtain⟨hl,hx⟩:=h1;rw[←hx,aca,gl]
 unfold rJ;rw[e];simp only[List.reverse_append,List.reverse_cons,fu,List.find?_append];have h0:(ps.drop (j+1)).reverse.find? (fun p=>p.1==at')=none:=by
  rw[ach];intro q hq;have:=hd q (acm.1 hq);simpa using this
 rw[h0];simp [he]
theorem aCG {cs:List ByteArray} {ps:List (Int×ByteArray)} {at':Int} (hd: ∀ q∈ps,q.1≠at') {k:Nat} {s:ByteArray} (hk:at'=(k:Int)) (hs:cs[k]? =some s):rJ cs ps at'=s:=by
 unfold rJ;have h0:ps.reverse.find? (fun p=>p.1==at')=none:=by
  rw[ach];intro q hq;have:=hd q (acm.1 hq);simpa using this
 rw[h0];subst hk;simp [ada,hs]
theorem aCH {α:Type} {xs:List α} {j:Nat} {x:α} (hx:xs[j]? =some x) {P:α→Prop} (h: ∀ q∈xs.drop (j+1),P q) (hp:P x): ∀ q∈xs.drop j,P q:=by
 intro q hq;obtain⟨hl,he⟩:=aj.1 hx;rw[←aca (h:=hl),he] at hq;rcases al.1 hq with rfl|hq
 ·exact hp
 ·exact h q hq
theorem aKL (a w:Option Addr) (ca cw:Nat) (cs:List ByteArray) (ps:List (Int×ByteArray)) (k:Nat) (hk:k<cs.length) (hp:ps.length≤1000000):
  Ct lk 159 [.agg #[.slice a cs.length ca, .slice w ps.length cw], .int .i64 (k:Int)] [sl 1 (.slice a cs.length ca) (cs.map fS),sl 2 (.slice w ps.length cw) (ps.map fP)] fun v H'=>v= .string (rJ cs ps k)∧H'=[]:=by
 obtain⟨s,hs⟩: ∃ s,cs[k]? =some s:=⟨_,ak hk⟩;(refine Ye Tryz.func159 Tryz.ntmps159 ?_;intro Fr);(refine yW ?_;intro b);(refine cU (σ:=Nat) (fun m=>m≤ps.length∧ ∀ q∈ps.drop m,q.1≠(k:Int)) (fun m=>[(5, .int .i64 ((m:Int)-1))]) (fun m=>m) (ps.length) Ja Ze (fun m ⟨hm,hd⟩=> ?_);refine Da ?_);cases m with
 |zero=>
  refine dE ?_;exact Ea (x:=⟨by rw[aCG (by simpa using hd) rfl hs],rfl⟩)
 |succ j=>
  have e:((j+1:Nat):Int)-1=(j:Int):=Z8
  rw[e];obtain⟨p,zy⟩: ∃ p,ps[j]? =some p:=⟨_,ak Z8⟩;(repeat' (first|refine Y5 ?_|(refine Wb ?_;intro b)|(refine Wq ?_;intro q)|(refine Ws ?_ ?_<;>intro h)|fail))
  ·exact Ea (x:=⟨by rw[aKK zy hd ‹_›],rfl⟩)
  ·refine Ee (j) ?_ ?_
   ·exact⟨Z8,aCH zy hd ‹_›⟩
   ·exact Nat.lt_succ_self j
end bA
namespace cK
open Go.RowKit bO
def auU (p:Int×Int):List Value:=[.int .i64 p.1, .int .i64 p.2]
def gT (p:Int×Int):Prop:=0≤p.1∧p.1<128∧0≤p.2∧p.2<40∧(p.1≠0∨p.2=0)∧p.1≠1
instance (p:Int×Int):Decidable (gT p):=by unfold gT;infer_instance
theorem YZ (c n:Int) (W:World):
  Calls lk 178 #[.agg #[.int .i64 c, .int .i64 n]] W fun e w'=>e= .returned (.bool (decide (gT (c,n))))∧Below W.heap.size W w':=by
 obtain⟨r,hr⟩: ∃ r,r=decide (gT (c,n)):=⟨_,rfl⟩;rw[←hr];have hb:=(Below.refl W.heap.size W).alloc (df _) (Obj.cells #[gh .i64 c,gh .i64 n] 77);by_cases h1:0≤c
 ·by_cases h2:c<128
  ·by_cases h3:0≤n
   ·by_cases h4:n<40
    ·by_cases h5:c=0
     ·by_cases h6:n=0
      ·have:r=true:=by rw[hr,decide_eq_true_iff];unfold gT;simp only;omega
       subst this;subst h5 h6;clear hr
       go_enter Tryz.func178,Tryz.ntmps178
       go_wp2_with (fail)
       go_ret
       exact⟨rfl,hb⟩
      ·have:r=false:=by rw[hr,decide_eq_false_iff_not];unfold gT;simp only;omega
       subst this;have hnb:(n==0)=false:=by simpa using h6
       subst h5;clear hr
       go_enter Tryz.func178,Tryz.ntmps178
       go_wp2_with (fail)
       go_ret
       exact⟨rfl,hb⟩
     ·have hcb:(c !=0)=true:=by simpa using h5
      by_cases h6:c=1
      ·have:r=false:=by rw[hr,decide_eq_false_iff_not];unfold gT;simp only;omega
       subst this;subst h6;clear hr
       go_enter Tryz.func178,Tryz.ntmps178
       go_wp2_with (fail)
       go_ret
       exact⟨rfl,hb⟩
      ·have:r=true:=by rw[hr,decide_eq_true_iff];unfold gT;simp only;omega
       subst this;have hcb1:(c !=1)=true:=by simpa using h6
       clear hr
       go_enter Tryz.func178,Tryz.ntmps178
       go_wp2_with (fail)
       go_ret
       exact⟨rfl,hb⟩
    ·have:r=false:=by rw[hr,decide_eq_false_iff_not];unfold gT;simp only;omega
     subst this;clear hr
     go_enter Tryz.func178,Tryz.ntmps178
     go_wp2_with (fail)
     go_ret
     exact⟨rfl,hb⟩
   ·have:r=false:=by rw[hr,decide_eq_false_iff_not];unfold gT;simp only;omega
    subst this;clear hr
    go_enter Tryz.func178,Tryz.ntmps178
    go_wp2_with (fail)
    go_ret
    exact⟨rfl,hb⟩
  ·have:r=false:=by rw[hr,decide_eq_false_iff_not];unfold gT;simp only;omega
   subst this;clear hr
   go_enter Tryz.func178,Tryz.ntmps178
   go_wp2_with (fail)
   go_ret
   exact⟨rfl,hb⟩
 ·have:r=false:=by rw[hr,decide_eq_false_iff_not];unfold gT;simp only;omega
  subst this;clear hr
  go_enter Tryz.func178,Tryz.ntmps178
  go_wp2_with (fail)
  go_ret
  exact⟨rfl,hb⟩
end cK
namespace cK
open Go.RowKit bO
def pF (w:Int):List Value:=[.int .i64 w]
def aQP (ps:List (Int×Int)) (gs:List Int) (i:Nat):Prop:= ∀ p g,ps[i]? =some p→gs[i]? =some g→gT p∧0≤g∧g≤2147483647
def eT (ps:List (Int×Int)) (gs:List Int):Prop:=ps.length=48∧gs.length=48∧ ∀ i,i<48→aQP ps gs i
structure aqS (W:World) (a g:Value) (ps:List (Int×Int)) (gs:List Int):Prop where
 ha:bX W 2 a (ps.map auU)
 hg:bX W 1 g (gs.map pF)
 ga: ∀ p∈ps,(kg .i64 p.1).wf=true∧(kg .i64 p.2).wf=true
 gg: ∀ z∈gs,(kg .i64 z).wf=true
 la:ps.length≤1000000000000000
 lg:gs.length≤1000000000000000
structure Cells (W:World) (a g:Value) (ps:List (Int×Int)) (gs:List Int) (qa qg:Option Addr) (ca cg ba oa bg og:Nat):Prop where
 ea:a= .slice qa ps.length ca
 eg:g= .slice qg gs.length cg
 va: ∀ k,k<ps.length→qa=some ⟨ba,oa,none⟩∧ba<W.heap.size
 vg: ∀ k,k<gs.length→qg=some ⟨bg,og,none⟩∧bg<W.heap.size
 c0: ∀ k p,ps[k]? =some p→W.cell? ⟨ba,oa+k*2,none⟩=some (.int .i64 p.1)∧W.cell? ⟨ba,oa+k*2+1,none⟩=some (.int .i64 p.2)
 c1: ∀ k z,gs[k]? =some z→W.cell? ⟨bg,og+k,none⟩=some (.int .i64 z)
theorem aqS.cells {W:World} {a g:Value} {ps:List (Int×Int)} {gs:List Int} (h:aqS W a g ps gs): ∃ qa qg ca cg ba oa bg og,Cells W a g ps gs qa qg ca cg ba oa bg og:=by
 obtain⟨qa,ca,ba,oa,rfl,zy,zx⟩:=h.ha.view;obtain⟨qg,cg,bg,og,rfl,zw,zv⟩:=h.hg.view;refine⟨qa,qg,ca,cg,ba,oa,bg,og,Ja,Ja,by simpa using zy,by simpa using zw,fun k p hp=> ?_,fun k z hz=> ?_⟩
 ·have h:=zx k (auU p) (by rw[dp,hp];rfl);exact⟨h 0 _ rfl,h 1 _ rfl⟩
 ·have h:=zv k (pF z) (by rw[dp,hz];rfl) 0 _ rfl;simpa [gy] using h
theorem bP (a g:Value) (ps:List (Int×Int)) (gs:List Int) (W:World) (hm:aqS W a g ps gs):
  Calls lk 110 #[.agg #[a,g]] W fun e w'=>(eT ps gs∧e= .returned (.int .i64 0)∨ ¬ eT ps gs∧e= .returned (.int .i64 4))∧Below W.heap.size W w':=by
 obtain⟨qa,qg,ca,cg,ba,oa,bg,og,hc⟩:=hm.cells;obtain⟨rfl,rfl,va,vg,c0,c1⟩:=hc;have HA:=Lib.hid va;have HG:=Lib.hid vg;have HC:=Lib.hid c0;have HD:=Lib.hid c1;have hla:=hm.la;have hlg:=hm.lg;have hga:=hm.ga;have hgg:=hm.gg;clear va vg c0 c1 hm;by_cases l1:(ps.length:Int)=48
 ·by_cases l2:(gs.length:Int)=48
  ·have e1:ps.length=48:=Z8
   have e2:gs.length=48:=Z8
   rw[e1,e2];have E1:=Lib.hid e1;have E2:=Lib.hid e2;clear l1 l2 e1 e2 hla hlg
   go_enter Tryz.func110,Tryz.ntmps110
   go_wp2_with (fail)
   have hbx0:(W.alloc (Obj.cells #[jw qa 48 ca,jw qg 48 cg] 73)).heap[W.heap.size]? =some (.cells #[jw qa 48 ca,jw qg 48 cg] 73 (0,0)):=heap_alloc_new _ _;have hb0:=(Below.refl W.heap.size W).alloc (df _) (Obj.cells #[jw qa 48 ca,jw qg 48 cg] 73);have hlt0:W.heap.size<(W.alloc (Obj.cells #[jw qa 48 ca,jw qg 48 cg] 73)).heap.size:=Ja
   generalize W.alloc (Obj.cells #[jw qa 48 ca,jw qg 48 cg] 73)=W0 at hbx0 hb0 hlt0 ⊢
   go_loopw [18] (fun y wr=> ∃ k:Nat,k≤48∧y= .int .i64 k∧Hid (∀ i,i<k→aQP ps gs i)∧Below W0.heap.size W0 wr) (fun y _=>48-(intOf y).toNat)
   case atStart=>exact⟨0,Z8,rfl,fun i hi=>by omega,Below.refl _ _⟩
   case round=>
    obtain⟨k,hk,rfl,hok,hbw⟩:=hrel;have hb:Below W.heap.size W wr:=hb0.trans (hbw.mono hb0.size);have hbx:wr.heap[W.heap.size]? =some (.cells #[jw qa 48 ca,jw qg 48 cg] 73 (0,0)):=(hbw.block _ hlt0).trans hbx0;by_cases hlt:k<48
    ·obtain⟨rfl,hba⟩:=HA.out k (by rw[E1.out];exact hlt);obtain⟨rfl,hbg⟩:=HG.out k (by rw[E2.out];exact hlt);obtain⟨⟨c,n⟩,hp⟩: ∃ p,ps[k]? =some p:=⟨_,ak (by rw[E1.out];exact hlt)⟩;obtain⟨z,hz⟩: ∃ z,gs[k]? =some z:=⟨_,ak (by rw[E2.out];exact hlt)⟩;have hc:=HC.out k _ hp;have d0:wr.cell? ⟨ba,oa+k*2,none⟩=some (.int .i64 c):=(hb.cell (p:=⟨ba,oa+k*2,none⟩) hba).trans hc.1;have d1:wr.cell? ⟨ba,oa+k*2+1,none⟩=some (.int .i64 n):=(hb.cell (p:=⟨ba,oa+k*2+1,none⟩) hba).trans hc.2;have x0:wr.cell? ⟨W.heap.size,0,none⟩=some (jw (some ⟨ba,oa,none⟩) 48 ca):=by rw[cell_of_row _ _ _ _ _ _ hbx];rfl
     have hltI:(k:Int)<48:=Z8
     have HP:=Lib.hid hp;have HZ:=Lib.hid hz;clear hc hp hz
     go_wp2_with (fail)
     refine (YZ c n _).mono ?_;rintro e W1 ⟨rfl,hb1⟩;have hsz:=hb.size;have hbx1:W1.heap[W.heap.size]? =some (.cells #[jw (some ⟨ba,oa,none⟩) 48 ca,jw (some ⟨bg,og,none⟩) 48 cg] 73 (0,0)):=(hb1.block _ (by have:=(dn.1 hbx).1;simp;omega)).trans ((heap_alloc_old _ _ (dn.1 hbx).1).trans hbx);have hbw1:Below W0.heap.size W0 W1:=(hbw.alloc hbw.size _).trans (hb1.mono (gm hbw.size Ja));have hb2:Below W.heap.size W W1:=hb0.trans (hbw1.mono hb0.size);clear x0 d0 d1 hbx hbw hb hb1;by_cases hr:gT (c,n)
     ·rw[decide_eq_true hr];have x1:W1.cell? ⟨W.heap.size,1,none⟩=some (jw (some ⟨bg,og,none⟩) 48 cg):=by rw[cell_of_row _ _ _ _ _ _ hbx1];rfl
      have d2:W1.cell? ⟨bg,og+k,none⟩=some (.int .i64 z):=(hb2.cell (p:=⟨bg,og+k,none⟩) hbg).trans (HD.out k z HZ.out);by_cases z0:z<0
      ·have hbad: ¬ eT ps gs:=fun h=>by have:=(h.2.2 k hlt _ _ HP.out HZ.out).2.1;omega
       clear hr
       go_wp2_with (fail)
       go_ret
       exact⟨.inr ⟨hbad,rfl⟩,hb2⟩
      ·by_cases z1:2147483647<z
       ·have hbad: ¬ eT ps gs:=fun h=>by have:=(h.2.2 k hlt _ _ HP.out HZ.out).2.2;omega
        clear hr
        go_wp2_with (fail)
        go_ret
        exact⟨.inr ⟨hbad,rfl⟩,hb2⟩
       ·have hnext:Hid (∀ i,i<k+1→aQP ps gs i):=fun i hi=>by
         by_cases hik:i<k
         ·exact hok.out i hik
         ·have:i=k:=Z8
          subst this;intro p g h1 h2;rw[HP.out] at h1;rw[HZ.out] at h2;have h3:=a7 h1;have h4:=a7 h2;subst h3 h4;exact⟨hr,Z8,Z8⟩
        clear hr
        go_wp2_with (fail)
        exact⟨⟨k+1,Z8,rfl,hnext,hbw1⟩,by show 48-(((k:Int)+1).toNat)<48-((k:Int).toNat);omega⟩
     ·rw[decide_eq_false hr];have hbad: ¬ eT ps gs:=fun h=>hr (h.2.2 k hlt _ _ HP.out HZ.out).1
      clear hr
      go_wp2_with (fail)
      go_ret
      exact⟨.inr ⟨hbad,rfl⟩,hb2⟩
    ·have hke:k=48:=Z8
     subst hke;have hgood:eT ps gs:=⟨E1.out,E2.out,hok.out⟩
     go_wp2_with (fail)
     go_ret
     exact⟨.inl ⟨hgood,rfl⟩,hb⟩
  ·have hbad: ¬ eT ps gs:=fun h=>by have:=h.2.1;omega
   have l2b:((gs.length:Int) !=48)=true:=by simpa using l2
   have l1b:((ps.length:Int) !=48)=false:=by simpa using l1
   have hb0:=(Below.refl W.heap.size W).alloc (df _) (Obj.cells #[jw qa ps.length ca,jw qg gs.length cg] 73);clear l1 l2
   go_enter Tryz.func110,Tryz.ntmps110
   go_wp2_with (fail)
   go_ret
   exact⟨.inr ⟨hbad,rfl⟩,hb0⟩
 ·have hbad: ¬ eT ps gs:=fun h=>by have:=h.1;omega
  have l1b:((ps.length:Int) !=48)=true:=by simpa using l1
  have hb0:=(Below.refl W.heap.size W).alloc (df _) (Obj.cells #[jw qa ps.length ca,jw qg gs.length cg] 73);clear l1
  go_enter Tryz.func110,Tryz.ntmps110
  go_wp2_with (fail)
  go_ret
  exact⟨.inr ⟨hbad,rfl⟩,hb0⟩
end cK
namespace cK
open Go.RowKit bO sl
def WfM (ps:List (Int×Int)) (gs:List Int):Prop:=(∀ p∈ps,(kg .i64 p.1).wf=true∧(kg .i64 p.2).wf=true)∧(∀ z∈gs,(kg .i64 z).wf=true)∧ps.length≤1000000000000000∧gs.length≤1000000000000000
theorem agW {W:World} {a g:Value} {ps:List (Int×Int)} {gs:List Int} (h:aG [sl 2 a (ps.map jP),sl 1 g (gs.map fI)] W) (hw:WfM ps gs):aqS W a g ps gs:=
 ⟨h.1 (sl 2 a (ps.map jP)) Ja,h.1 (sl 1 g (gs.map fI)) Ja,hw.1,hw.2.1,hw.2.2.1,hw.2.2.2⟩
attribute [local irreducible] box own sl bL aH bJ Qt cN cM dG dL eQ
theorem oL (a g:Value) {ps:List (Int×Int)} {gs:List Int} (hw:WfM ps gs) (h:eT ps gs):Ct lk 110 [.agg #[a,g]] [sl 2 a (ps.map jP),sl 1 g (gs.map fI)] fun v H'=>v= .int .i64 0∧H'=[]:=
 bK fun W hW => (bP a g ps gs W (agW hW hw)).mono fun e w' ⟨h1, h2⟩ => ⟨by
  rcases h1 with h1|h1
  ·exact h1.2
  ·exact absurd h h1.1, h2⟩
theorem aaA (a g:Value) {ps:List (Int×Int)} {gs:List Int} (hw:WfM ps gs) (h: ¬ eT ps gs):Ct lk 110 [.agg #[a,g]] [sl 2 a (ps.map jP),sl 1 g (gs.map fI)] fun v H'=>v= .int .i64 4∧H'=[]:=
 bK fun W hW => (bP a g ps gs W (agW hW hw)).mono fun e w' ⟨h1, h2⟩ => ⟨by
  rcases h1 with h1|h1
  ·exact absurd h1.1 h
  ·exact h1.2, h2⟩
theorem RN (p:Int×Int):Ct lk 178 [.agg #[.int .i64 p.1, .int .i64 p.2]] [] fun v H'=>v= .bool (decide (gT p))∧H'=[]:=
 bK fun W hW=>YZ p.1 p.2 W
end cK
namespace sl
open Go.RowKit bO Go.Maps Go.MapKept
def okI (x:Int):Prop:=(kg .i64 x).wf=true
def cK (P:Program) (k e:TypeId) (b n:Nat) (g:Int→Int):Ent where
 jF:=true
 lD j:=j=b
 holds w:= ∃ D:DataW Unit,w.ownsMap P k (plainElem P e) b n D∧IsMap D∧ ∀ x,okI x→D.atKey (.int .i64 x) (.lit (.int .i64 0))= .lit (.int .i64 (g x))
 lt h hk:=by
  subst hk;obtain⟨D,h1,_⟩:=h;exact h1.lt
 keep h _ _ _ _ hb:=by
  obtain⟨D,⟨es,clock,h1,h2⟩,h3⟩:=h;exact⟨D,⟨es,clock,by rw[hb b rfl];exact h1,h2⟩,h3⟩
section
variable {P:Program} {n:Nat} {F:eE} {H R:List Ent} {o:Oper} {x y z:Operand} {v u z':Value} {T:TypeId}
theorem agZ {k e:TypeId} [hm:Mp P T k e] (ho:o.op= .makeMap T none):cN P n o F H fun u H'=> ∃ b,u= .map (some b)∧H'=cK P k e b 0 (fun _=>0)::H:=fun Q a w next ha hw hn=>by
 unfold bj;simp only[execOp,ho,eo,run_makeMap,ab,ah,aa,bf];refine hn _ _ _ ⟨w.heap.size,rfl,rfl⟩ (aG.new hw (fZ w _) ?_ fun j hj=> ?_)
 ·exact⟨_,aci w P k _,isMap_empty,fun x _=>rfl⟩
 ·have:j=w.heap.size:=hj;omega
theorem RU {k e:TypeId} {b m:Nat} {g:Int→Int} {key:Int} {by':Nat} [hm:Mp P T k e] [hk:AA P k .i64] [hi:AA P e .i64] [he:Ty P e false 1 by' (.int .i64 0)] (ho:o.op= .lookup T x y false) (hx:ev F x=some (.map (some b))) (hy:ev F y=some (.int .i64 key)) (p:bQ (cK P k e b m g) H R) (hw:okI key):Qt P n o F H (.int .i64 (g key)):=fun a w ha hh=>by
 obtain⟨D,h1,h2,h3⟩:=hh.1 _ p.mem;obtain⟨c,hr,hc,_⟩:=h1.lookup_int (int_keyed hk.h) hm.h hi.h (rB he w) (keyOf_int_mk hk.h hw);have e1:=h3 key hw;rw[hc] at e1;cases e1;simp only[execOp,ho,ha.eval hx,ha.eval hy,hr,ab,ah,aa]
theorem XB {k e:TypeId} {b m:Nat} {g:Int→Int} {key val:Int} [hm:Mp P T k e] [hk:AA P k .i64] [hi:AA P e .i64] (ho:o.op= .mapUpdate T x y z) (hx:ev F x=some (.map (some b))) (hy:ev F y=some (.int .i64 key)) (hz:ev F z=some (.int .i64 val)) (p:bQ (cK P k e b m g) H R) (hw:okI key) (hv:okI val) (hlt:m<maxLen):cN P n o F H fun u H'=>u=undef∧H'=cK P k e b (m+1) (fun j=>if j=key then val else g j)::R:=fun Q a w next ha hh hn=>by
 have zy:=hh.perm p.perm;obtain⟨D,h1,h2,h3⟩:=zy.head;obtain⟨w',hr,h4,h5⟩:=h1.update (int_keyed hk.h) hm.h hlt (keyOf_int_mk hk.h hw) (plainElem_int hi.h hv);unfold bj;simp only[execOp,ho,ha.eval hx,ha.eval hy,ha.eval hz,hr,ab,ah,aa,bf];refine hn _ _ _ ⟨rfl,rfl⟩ (aG.qO zy rfl ⟨h5.os,h5.tape,h5.output,h5.size,fun j hj zx=>h5.block j hj (fun e=>zx (show j=b from a7 e))⟩ ⟨_,h4,h2.put _ _,fun j hj=> ?_⟩ fun j hj=> .inl hj);show _=DataW.lit (.int .i64 (if j=key then val else g j));by_cases e:j=key
 ·subst e;rw[Jg rfl,atKey_put_same h2 ZT]
 ·rw[Jf e,atKey_put_other (by simpa using e),h3 j hj]
end
end sl
namespace sl
open Go.RowKit bO Go.Maps Go.MapKept Go.WideMaps Go.WideShapes Go.WideElems
open Go.ChangeMaps (setBlock heap_setBlock_same heap_setBlock_other)
abbrev K3:=UInt8×UInt8×UInt8
def ahA (t:K3):Value:= .agg #[.int .u8 (t.1.toNat:Int), .int .u8 (t.2.1.toNat:Int), .int .u8 (t.2.2.toNat:Int)]
theorem aCP {a b:K3} (h:ahA a=ahA b):a=b:=by
 obtain⟨a1,a2,a3⟩:=a;obtain⟨b1,b2,b3⟩:=b;simp only[ahA,Value.agg.injEq,Array.mk.injEq,List.cons.injEq,Value.int.injEq,true_and,and_true] at h;obtain⟨h1,h2,h3⟩:=h;have e1:a1=b1:=abf.1 Z8;have e2:a2=b2:=abf.1 Z8;have e3:a3=b3:=abf.1 Z8;rw[e1,e2,e3]
class auX (P:Program) (k:TypeId):Prop where
 h: ∃ e,ArrKey P k e 3∧P.underlying e=some (.int .u8)
 sz: ∃ m,P.types.size=m+1
theorem acV (x:UInt8):(kg .u8 (x.toNat:Int)).wf=true:=by
 have:=UInt8.toNat_lt x;simp [Lit.wf,IntKind.min,IntKind.max,IntKind.signed,IntKind.bits];omega
theorem MW {P:Program} {k:TypeId} (hk:auX P k) (t:K3): ∃ l,keyOf P k (ahA t)=some l:=by
 obtain⟨⟨e,A,he⟩,hsz⟩:=hk;have zy:=A.keyType hsz;obtain⟨m,hm⟩:=hsz;have w1:=acV t.1;have w2:=acV t.2.1;have w3:=acV t.2.2;refine⟨.string (keyBytes [.int .u8 (t.1.toNat:Int), .int .u8 (t.2.1.toNat:Int), .int .u8 (t.2.2.toNat:Int)]), ?_⟩;unfold keyOf ahA;simp only[A.hu];rw[Jg (by simp [zy,Value.formed,A.hu,A.size]),hm];unfold Program.keyLits;simp only[A.hu,aaa];rw[Jg (by rw[A.size];rfl),show mn 3=[0,1,2] from rfl,ki,ki,ki,List.mapM_nil];simp [A.one,Program.keyLits,he,w1,w2,w3]
theorem aCQ {P:Program} {k:TypeId} (hk:auX P k):KeyLaw P k:=by
 obtain⟨⟨e,A,he⟩,hsz⟩:=hk;exact A.law
theorem RV {P:Program} {k:TypeId} (hk:auX P k):Keyed P k:=by
 obtain⟨⟨e,A,he⟩,hsz⟩:=hk;exact Keyed.of_law A.law
def rH (v:Value):Option (DataW Value×List MemPlace):=some (.held v,[])
def acW (P:Program) (k:TypeId) (z:Value) (b n:Nat) (g:K3→Value):Ent where
 jF:=true
 lD j:=j=b
 holds w:= ∃ D:DataW Value,w.ownsMap P k rH b n D∧IsMap D∧ ∀ x l,keyOf P k (ahA x)=some l→D.atKey l (.held z)= .held (g x)
 lt h hk:=by
  subst hk;obtain⟨D,h1,_⟩:=h;exact h1.lt
 keep h _ _ _ _ hb:=by
  obtain⟨D,⟨es,clock,h1,h2⟩,h3⟩:=h;exact⟨D,⟨es,clock,by rw[hb b rfl];exact h1,h2⟩,h3⟩
def aUA (P:Program) (k T:TypeId) (z:Value) (b n:Nat) (g:K3→Value) (t:K3) (st:Nat):Ent where
 jF:=true
 lD j:=j=b
 holds w:= ∃ es1 clock1,w.heap[b]? =some (.map es1 clock1)∧ ∀ (w2:World) (val:Value),w2.heap[b]? =some (.map es1 clock1)→ ∃ es' clock',(Instr.entryStore T (.map (some b)) (goInt st) val).run P w2= .ok () (setBlock w2 b (.map es' clock'))∧ ∀ w3:World,w3.heap[b]? =some (.map es' clock')→(acW P k z b (n+1) (fun j=>if j=t then val else g j)).holds w3
 lt h hk:=by
  subst hk;obtain⟨es1,clock1,h1,_⟩:=h;exact (dn.1 h1).1
 keep h _ _ _ _ hb:=by
  obtain⟨es1,clock1,h1,h2⟩:=h;exact⟨es1,clock1,by rw[hb b rfl];exact h1,h2⟩
theorem aKO {P:Program} {k:TypeId} {z:Value} {b n:Nat} {g:K3→Value} {w w':World} (h:(acW P k z b n g).holds w) (hb:w'.heap[b]? =w.heap[b]?):(acW P k z b n g).holds w':=by
 obtain⟨D,⟨es,clock,h1,h2⟩,h3⟩:=h;exact⟨D,⟨es,clock,by rw[hb];exact h1,h2⟩,h3⟩
section
variable {P:Program} {n:Nat} {F:eE} {H R:List Ent} {o:Oper} {x y z:Operand} {v u z':Value} {T:TypeId}
theorem acX {k e:TypeId} (ho:o.op= .makeMap T none):cN P n o F H fun u H'=> ∃ b,u= .map (some b)∧H'=acW P k z' b 0 (fun _=>z')::H:=fun Q a w next ha hw hn=>by
 unfold bj;simp only[execOp,ho,eo,run_makeMap,ab,ah,aa,bf];refine hn _ _ _ ⟨w.heap.size,rfl,rfl⟩ (aG.new hw (fZ w _) ?_ fun j hj=> ?_)
 ·exact⟨_,aci w P k _,isMap_empty,fun x l _=>rfl⟩
 ·have:j=w.heap.size:=hj;omega
theorem auY {k e:TypeId} {b m:Nat} {g:K3→Value} {t:K3} {by':Nat} {agg:Bool} {sz:Nat} [hm:Mp P T k e] [hk:auX P k] [he:Ty P e agg sz by' z'] (ho:o.op= .lookup T x y false) (hx:ev F x=some (.map (some b))) (hy:ev F y=some (ahA t)) (p:bQ (acW P k z' b m g) H R) (hv:g t=v):Qt P n o F H v:=fun a w ha hh=>by
 obtain⟨D,h1,h2,h3⟩:=hh.1 _ p.mem;obtain⟨l,hl⟩:=MW hk t;obtain⟨c,ps,hr,hc⟩:=h1.lookup (RV hk) hm.h (rB he w) (zd:= .held z') (zp:=[]) rfl hl;rw[h3 t l hl] at hc;simp only[rH,aq,Prod.mk.injEq,DataW.held.injEq] at hc;obtain⟨rfl,_⟩:=hc;subst hv;simp only[execOp,ho,ha.eval hx,ha.eval hy,hr,ab,ah,aa]
theorem XD {k e:TypeId} {b m:Nat} {g:K3→Value} {t:K3} {by':Nat} {agg:Bool} {sz:Nat} [hm:Mp P T k e] [hk:auX P k] [he:Ty P e agg sz by' z'] (ho:o.op= .mapEntry T x y) (hx:ev F x=some (.map (some b))) (hy:ev F y=some (ahA t)) (p:bQ (acW P k z' b m g) H R) (hv:g t=v) (hlt:m<maxLen):cN P n o F H fun u H'=> ∃ st:Nat,u= .tuple #[v, .int .i64 (st:Int)]∧H'=aUA P k T z' b m g t st::R:=fun Q a w next ha hh hn=>by
 have zv:=hh.perm p.perm;obtain⟨D,h1,h2,h3⟩:=zv.head;have K:=RV hk;obtain⟨l,hl⟩:=MW hk t;have zr:=h1;obtain⟨es,clock,hb,hF,hs,hD⟩:=h1;obtain⟨v0,st,es1,clock1,hr,hw,hst⟩:=entry_then_store (aCQ hk) hm.h (rB he) hb hF hl;have zq:v0=v:=by
  have e3:=h3 t l hl;rw[hD] at e3;rcases fit_look false K hm.h (rB he w) hb hF hl with⟨_,f1,f2⟩|⟨e0,yy,f1,f2,_,f4,f5,_⟩
  ·rcases hw with⟨e1,g1,g2,_⟩|⟨_,g2⟩
   ·exact absurd g2 (f1 e1 g1)
   ·rw[f2] at e3;rw[g2, ←hv];simpa using e3
  ·rw[f5] at e3;rcases hw with⟨e1,g1,g2,g3⟩|⟨g1,_⟩
   ·obtain⟨i0,zu⟩:=abl f1;obtain⟨i1,zy⟩:=abl g1;have:i1=i0:=acv fun zx=>other_key hF zu zy zx (by rw[g2,f2])
    subst this;rw[zu] at zy;cases zy;rw[g3, ←hv];simp only[rH,aq] at f4;subst f4;simpa using e3
   ·exact absurd f2 (g1 e0 f1)
 subst zq;unfold bj;simp only[execOp,ho,ha.eval hx,ha.eval hy,hr,ab,ah,aa,bf];refine hn _ _ _ ⟨st,rfl,rfl⟩ (aG.qO zv rfl ⟨rfl,rfl,rfl,by simp [setBlock],fun j hj zx=>heap_setBlock_other hb _ (fun e=>zx e)⟩ ⟨es1,clock1,heap_setBlock_same hb _,fun w2 val zn=> ?_⟩ fun j hj=> .inl hj);obtain⟨es',clock',q1,q2⟩:=hst w2 val zn;refine⟨es',clock',q1,fun w3 zm=> ?_⟩;obtain⟨w',zt,h4,h5⟩:=zr.update K hm.h hlt hl (d:= .held val) (ps:=[]) rfl;rw[q2] at zt;have ew:setBlock w b (.map es' clock')=w':=by simpa using zt
 have zw:(acW P k z' b (m+1) (fun j=>if j=t then val else g j)).holds w':=by
  refine⟨_,h4,h2.put _ _,fun j lj hj=> ?_⟩;show _=DataW.held (if j=t then val else g j);by_cases e:j=t
  ·subst e;rw[hl] at hj;cases hj;rw[Jg rfl,atKey_put_same h2 (K.key hl)]
  ·rw[Jf e,atKey_put_other (fun e2=>e (aCP (K.inj hj (by rw[e2];exact hl)))),h3 j lj hj]
 refine aKO zw ?_;rw[zm, ←ew,heap_setBlock_same hb]
theorem OG {k:TypeId} {b m st:Nat} {g:K3→Value} {t:K3} (ho:o.op= .entryStore T x y z) (hx:ev F x=some (.map (some b))) (hy:ev F y=some (.int .i64 (st:Int))) (hz:ev F z=some u) (p:bQ (aUA P k T z' b m g t st) H R):cN P n o F H fun v H'=>v=undef∧H'=acW P k z' b (m+1) (fun j=>if j=t then u else g j)::R:=fun Q a w next ha hh hn=>by
 have zx:=hh.perm p.perm;obtain⟨es1,clock1,hb,hk⟩:=zx.head;obtain⟨es',clock',hr,zy⟩:=hk w u hb;have zw:(Instr.entryStore T (.map (some b)) (.int .i64 (st:Int)) u).run P w= .ok () (setBlock w b (.map es' clock')):=hr;unfold bj;simp only[execOp,ho,ha.eval hx,ha.eval hy,ha.eval hz,zw,ab,ah,aa,bf];exact hn _ _ _ ⟨rfl,rfl⟩ (aG.qO zx rfl ⟨rfl,rfl,rfl,by simp [setBlock],fun j hj zv=>heap_setBlock_other hb _ (fun e=>zv e)⟩ (zy _ (heap_setBlock_same hb _)) fun j hj=> .inl hj)
theorem aCR {e by1 by2:Nat} {z2 z3 va vb vc:Value} (hu:P.underlying T=some (.array 3 e)) [ht:Ty P T true 3 by1 (.agg #[z3,z3,z3])] [he:Ty P e false 1 by2 z2] (ho:o.op= .build T #[(0,x),(1,y),(2,z)]) (hx:ev F x=some va) (hy:ev F y=some vb) (hz:ev F z=some vc) (h1:va.oneCell'=true) (h2:vb.oneCell'=true) (h3:vc.oneCell'=true):Qt P n o F H (.agg #[va,vb,vc]):=fun a w ha hw=>by
 have hf:Instr.fill (fun i=>some (i*1,1)) #[z3,z3,z3] [(0,va),(1,vb),(2,vc)]=some #[va,vb,vc]:=QK (cs:=[z3,z3,z3]) (OR rfl h1 rfl rfl (OR rfl h2 rfl rfl (OR rfl h3 rfl rfl .nil)));simp only[gy] at hf;simp [execOp,ho,Instr.build,rB ht w,run_underlying hu,eH he,ha.eval hx,ha.eval hy,ha.eval hz,aaa,hf,mw]
end
def mP (l:List Ent):Ent where
 jF:=true
 lD b:= ∃ e∈l,e.lD b
 holds w:=aG l w∧ ∀ e∈l,e.jF=true
 lt h hk:=by
  obtain⟨e,he,hb⟩:=hk;exact e.lt (h.1.1 e he) hb
 keep h h1 h2 h3 h4 h5:=⟨⟨fun e he=>e.keep (h.1.1 e he) h1 h2 h3 h4 fun b hb=>h5 b ⟨e,he,hb⟩,h.1.2⟩,h.2⟩
theorem BS (H:List Ent):HSub H (mP []::H):=fun w hw=>aG.new hw (oB.refl _ _) ⟨⟨fun e he=>absurd he ck,ft⟩,fun e he=>absurd he ck⟩ fun b hb=>by
 obtain⟨e,he,_⟩:=hb;exact absurd he ck
theorem JX {e:Ent} {l H R S:List Ent} (p:bQ e H R) (q:bQ (mP l) R S) (he:e.jF=true):HSub H (mP (e::l)::S):=fun w hw=>by
 have h1:aG (e::mP l::S) w:=hw.perm (p.perm.trans (q.perm.cons _));have hp:=an.1 h1.2;have hb:=h1.tail.head;have hq:=an.1 hp.2;refine⟨fun f hf=> ?_,an.2 ⟨fun f hf _ b zx zy=> ?_,hq.2⟩⟩
 ·rcases al.1 hf with rfl|hf
  ·refine⟨⟨fun f hf=> ?_,an.2 ⟨fun f hf _ b zx zy=> ?_,hb.1.2⟩⟩,fun f hf=> ?_⟩
   ·rcases al.1 hf with rfl|hf
    ·exact h1.head
    ·exact hb.1.1 f hf
   ·exact hp.1 _ bu (.inl he) b zx ⟨f,hf,zy⟩
   ·rcases al.1 hf with rfl|hf
    ·exact he
    ·exact hb.2 f hf
  ·exact h1.tail.tail.1 f hf
 ·obtain⟨g,hg,zw⟩:=zx;rcases al.1 hg with rfl|hg
  ·exact hp.1 f (a8 _ hf) (.inl he) b zw zy
  ·exact hq.1 f hf (.inl rfl) b ⟨g,hg,zw⟩ zy
theorem amI {e:Ent} {l l' H R:List Ent} (p:bQ (mP l) H R) (hl:l.Perm (e::l')):HSub H (e::mP l'::R):=fun w hw=>by
 have h1:aG (mP l::R) w:=hw.perm p.perm;have hb:=h1.head;have h2:aG (e::l') w:=hb.1.perm hl;have hx: ∀ f∈e::l',f.jF=true:=fun f hf=>hb.2 f (hl.mem_iff.2 hf)
 have hp:=an.1 h1.2;have hq:=an.1 h2.2;have hm: ∀ f∈e::l', ∀ b,f.lD b→(mP l).lD b:=fun f hf b hb=>⟨f,hl.mem_iff.2 hf,hb⟩
 refine⟨fun f hf=> ?_,an.2 ⟨fun f hf _ b zy zx=> ?_,an.2 ⟨fun f hf _ b zy zx=> ?_,hp.2⟩⟩⟩
 ·rcases al.1 hf with rfl|hf
  ·exact h2.head
  ·rcases al.1 hf with rfl|hf
   ·exact⟨h2.tail,fun f hf=>hx f (a8 _ hf)⟩
   ·exact h1.tail.1 f hf
 ·rcases al.1 hf with rfl|hf
  ·obtain⟨g,hg,zw⟩:=zx;exact hq.1 g hg (.inl (hx e bu)) b zy zw
  ·exact hp.1 f hf (.inl rfl) b (hm e bu b zy) zx
 ·obtain⟨g,hg,zw⟩:=zy;exact hp.1 f hf (.inl rfl) b (hm g (a8 _ hg) b zw) zx
end sl
namespace sl
end sl
namespace sl
open Go.RowKit bO
abbrev auZ:=List (Value×List (List Value))
def many (sz:Nat) (l:auZ):Ent where
 jF:=false
 lD b:= ∃ p∈l,(sl sz p.1 p.2).lD b
 holds w:= ∀ p∈l,(sl sz p.1 p.2).holds w
 lt h hk:=by
  obtain⟨p,hp,hb⟩:=hk;exact (sl sz p.1 p.2).lt (h p hp) hb
 keep h h1 h2 h3 h4 h5:=fun p hp=>(sl sz p.1 p.2).keep (h p hp) h1 h2 h3 h4 fun b hb=>h5 b ⟨p,hp,hb⟩
theorem aaF {S R:List Ent} {sz:Nat} {l:auZ} {v:Value} {rows:List (List Value)} (p:bQ (many sz l) S R) (h:(v,rows)∈l):View S (sl sz v rows):=
 ⟨rfl,fun w hw=>hw.1 _ p.mem _ h,fun b hb=>⟨_,p.mem,(v,rows),h,hb⟩⟩
theorem FJ {H R:List Ent} {sz:Nat} {l:auZ} {v:Value} {rows:List (List Value)} (p:bQ (many sz l) H R) (h:(v,rows)∈l):HSub H (sl sz v rows::H):=fun w hw=>
 ⟨fun e he => by
  rcases al.1 he with rfl|he
  ·exact hw.1 _ p.mem _ h
  ·exact hw.1 e he, an.2 ⟨fun f hf hx b zy zx => by
   rcases hx with hx|hx
   ·cases hx
   ·have h1:=hw.perm p.perm;have h2:=p.perm.mem_iff.1 hf;rcases al.1 h2 with rfl|h2
    ·cases hx
    ·exact (an.1 h1.2).1 f h2 (.inr hx) b ⟨_, h, zy⟩ zx, hw.2⟩⟩
theorem ahB {S R:List Ent} {sz e:Nat} {β α:Type} {tab:List β} {rw:β→Ent} {vv:β→Value} {xs:β→List α} {f:α→List Value} (p:bQ (mP (tab.map rw)) S R) (hr: ∀ r,rw r=own (vv r) e sz (xs r).length (flat f (xs r))) (hf: ∀ y,(f y).length=sz) (l:List β) (hl: ∀ r∈l,r∈tab):View S (many sz (l.map fun r=>(vv r,(xs r).map f))):=
 ⟨rfl, fun w hw x hx => by
  obtain⟨r,zy,rfl⟩:=fa.1 hx;have h1:aG (tab.map rw) w:=(hw.1 _ p.mem).1;have h2:=h1.1 (rw r) (acg (hl r zy));rw[hr] at h2;exact vE hf rfl h2,fun b hb=>by
  obtain ⟨x, hx, hb⟩ := hb;obtain ⟨r, zy, rfl⟩ := fa.1 hx;exact ⟨_, p.mem, rw r, acg (hl r zy), by rw [hr]; exact hb.2⟩⟩
end sl
namespace sl
open Go.RowKit bO
theorem qV {H:List Ent} {q:Option Addr} {e sz m c:Nat} {raw xs:List Value} (hm:m≤c) (hx:raw.take (m*sz)=xs):HSub (own (.slice q c c) e sz c raw::H) (own (.slice q m c) e sz m xs::H):=fun w hw=>by
 subst hx;have h:w.ownsRow 0 e sz (.slice q c c) c raw:=hw.head;refine aG.alR hw (fun _=>rfl) (?_:w.ownsRow 0 e sz (.slice q m c) m _) fun b hb=>by
  have zy:(jw q m c).ownBlock=some b:=hb;show (jw q c c).ownBlock=some b;cases q<;>exact zy
 have hl:raw.length=c*sz:=h.1;have zx:m*sz≤c*sz:=cr _ hm;rcases h.2 with⟨hv,h0⟩|⟨g,cap,cur,hv,hb,hg,h2,h3,h4,h5⟩
 ·cases hv;have:m=0:=Z8
  subst this;exact⟨Ja, .inl ⟨rfl,rfl⟩⟩
 ·cases hv;refine⟨by rw[ar];omega, .inr ⟨g,c,cur,rfl,hb,hg,hm,h3,h4, ?_⟩⟩;rw[←h5,aco,j9 zx]
theorem zF {w:World} {e sz n c:Nat} {q:Option Addr} {xs:List Value} (h:w.ownsRow 0 e sz (.slice q n c) n xs): ∃ raw,w.ownsRow 0 e sz (.slice q c c) c raw∧raw.length=c*sz∧raw.take (n*sz)=xs∧n≤c∧c≤maxLen:=by
 rcases h.2 with⟨hv,h0⟩|⟨g,cap,cur,hv,hb,hg,h2,h3,h4,h5⟩
 ·cases hv;have hx:xs=[]:=bp (by rw[h.1];simp);exact⟨[],⟨Ja, .inl ⟨rfl,rfl⟩⟩,Ja,by rw[hx];simp,df _,fe _⟩
 ·cases hv;have hl:cur.toList.length=c*sz:=by simpa using h4
  exact⟨cur.toList,⟨hl, .inr ⟨g,c,cur,rfl,hb,hg,df _,h3,h4,bd Z8⟩⟩,hl,h5,h2,h3⟩
section
variable {P:Program} {Q:fW} {n:Nat} {F:eE} {H R:List Ent} {o:Oper} {x y z:Operand} {v u z':Value} {T S:TypeId}
theorem avA {cd:Code} {q:Option Addr} {e sz m c:Nat} {xs:List Value} (p:bQ (own (.slice q m c) e sz m xs) H R) (k: ∀ raw,raw.length=c*sz→raw.take (m*sz)=xs→m≤c→c≤maxLen→dG P Q n cd F (own (.slice q c c) e sz c raw::R)):dG P Q n cd F H:=fun a w ha hw=>by
 have zy := hw.perm p.perm;obtain ⟨raw, h1, h2, h3, h4, h5⟩ := zF (zy.head : w.ownsRow 0 e sz (.slice q m c) m xs);refine k raw h2 h3 h4 h5 a w ha ?_;exact aG.qO zy rfl (oB.refl _ _) h1 fun b hb => .inl (by
  have zx : (jw q c c).ownBlock = some b := hb;show (jw q m c).ownBlock = some b;cases q <;> exact zx)
theorem JY {ops:Array Oper} {l:List Oper} {q:Option Addr} {e sz m c:Nat} {xs:List Value} (p:bQ (own (.slice q m c) e sz m xs) H R) (k: ∀ raw,raw.length=c*sz→raw.take (m*sz)=xs→m≤c→c≤maxLen→cM P ops Q n l F (own (.slice q c c) e sz c raw::R)):cM P ops Q n l F H:=fun a w ha hw=>by
 have zy := hw.perm p.perm;obtain ⟨raw, h1, h2, h3, h4, h5⟩ := zF (zy.head : w.ownsRow 0 e sz (.slice q m c) m xs);refine k raw h2 h3 h4 h5 a w ha ?_;exact aG.qO zy rfl (oB.refl _ _) h1 fun b hb => .inl (by
  have zx : (jw q c c).ownBlock = some b := hb;show (jw q m c).ownBlock = some b;cases q <;> exact zx)
theorem vP {f : FuncId} {args : List Value} {Rs : Value → List Ent → Prop} {q : Option Addr} {e sz m c : Nat} {xs : List Value} {H : List Ent} (k : m ≤ c → c ≤ maxLen → (q = none ∧ c = 0 ∨ ∃ g, q = some ⟨g, 0, none⟩) → Ct P f args (own (.slice q m c) e sz m xs :: H) Rs) : Ct P f args (own (.slice q m c) e sz m xs :: H) Rs := ⟨fun Fr w hw => by
 have h:w.ownsRow 0 e sz (.slice q m c) m xs:=hw.head;rcases h.2 with⟨hv,h0⟩|⟨g,cap,cur,hv,hb,hg,h2,h3,h4,h5⟩
 ·cases hv;exact (k (df _) (fe _) (.inl ⟨rfl,rfl⟩)).go Fr w hw
 ·cases hv;exact (k h2 h3 (.inr ⟨g, rfl⟩)).go Fr w hw⟩
theorem ahC {w:World} {dT sT ty elem:TypeId} {i:TypeInfo} (hu:P.underlying dT=some (.slice elem)) (hi:P.info? elem=some i) {g o1 dLen dCap:Nat} {a:Addr} {sLen sCap:Nat} {cur:Array Value} {t:TypeId} {cs:List Value} {k:Nat} (hg:w.heap[g]? =some (.cells cur t (0,0))) (hk:acp sLen dLen=k) (hn:cs.length=k*i.size) (zy: ∀ j v,cs[j]? =some v→w.cell? (a.add j)=some v) (zx:o1+cs.length≤cur.size) (h1: ∀ v∈cs,v.oneCell'=true):(acu #[dT,sT] ty #[.slice (some ⟨g,o1,none⟩) dLen dCap, .slice (some a) sLen sCap]).run P w= .ok (goInt k) (w.setRow g (cur.toList.take o1++cs++cur.toList.drop (o1+cs.length)).toArray):=by
 have hf:=run_firstCells_some (P:=P) w i.size k a sLen sCap cs hn zy;have hst:=run_storeCells_at P g o1 t cs 0 cur w hg (by simpa using zx) h1;simp only[fl] at hst;simp [acu,run_underlying hu,Builtin.lenOf,sizeOf,typeInfo,hi,hk,hf,hst]
theorem vQ (g a b:Nat):(⟨g,a,none⟩:Addr).add b=⟨g,a+b,none⟩:=by simp [Addr.add]
theorem uC {w:World} {e sz m c g:Nat} {xs:List Value} (h:w.ownsRow 0 e sz (.slice (some ⟨g,0,none⟩) m c) m xs): ∃ cur,w.heap[g]? =some (.cells cur e (0,0))∧m≤c∧c≤maxLen∧cur.size=c*sz∧cur.toList.take (m*sz)=xs:=by
 rcases h.2 with⟨hv,h0⟩|⟨g',cap,cur,hv,hb,hg,h2,h3,h4,h5⟩
 ·cases hv
 ·cases hv;exact⟨cur,hg,h2,h3,h4,h5⟩
theorem BU {w:World} {e sz c g:Nat} {raw raw':List Value} {cur:Array Value} (hw:aG (own (.slice (some ⟨g,0,none⟩) c c) e sz c raw::R) w) (hg:w.heap[g]? =some (.cells cur e (0,0))) (hl:raw'.length=c*sz):aG (own (.slice (some ⟨g,0,none⟩) c c) e sz c raw'::R) (w.setRow g raw'.toArray):=by
 have h:w.ownsRow 0 e sz (.slice (some ⟨g,0,none⟩) c c) c raw:=hw.head;obtain⟨cur',hg',h2,h3,h4,h5⟩:=uC h;refine aG.qO hw rfl (qF w g _ _ rfl) ?_ fun k hk=> .inl hk
 exact⟨hl, .inr ⟨g,c,_,rfl,fe _,setRow_heap w g _ _ e _ hg,df _,h3,by simpa using hl,by rw[List.toList_toArray,bd Z8]⟩⟩
theorem FK {T' e by' sz g o1 d1 c1 d2 c2 c k:Nat} {agg:Bool} {ad:Addr} {raw cs:List Value} [ht:pD P T e] [hs:Ty P e agg sz by' z'] (ho:o.op= .call { callee:= .builtin .copy,args:= #[x,y],argTypes:= #[T,T'] }) (hx:ev F x=some (.slice (some ⟨g,o1,none⟩) d1 c1)) (hy:ev F y=some (.slice (some ad) d2 c2))
  (p:bQ (own (.slice (some ⟨g,0,none⟩) c c) e sz c raw) H R) (hk:acp d2 d1=k) (zx:cs.length=k*sz) (zw:o1+k*sz≤c*sz) (zv: ∀ w,aG (own (.slice (some ⟨g,0,none⟩) c c) e sz c raw::R) w→ ∀ j v,cs[j]? =some v→w.cell? (ad.add j)=some v) (h1: ∀ v∈cs,v.oneCell'=true):
  cN P n o F H fun r H'=>r= .int .i64 (k:Int)∧H'=own (.slice (some ⟨g,0,none⟩) c c) e sz c (raw.take o1++cs++raw.drop (o1+k*sz))::R:=fun Q a w next ha hw hn=>by
 have zu:=hw.perm p.perm;have zy:w.ownsRow 0 e sz (.slice (some ⟨g,0,none⟩) c c) c raw:=zu.head;obtain⟨cur,hg,h2,h3,h4,h5⟩:=uC zy;have hcl:cur.toList.length=c*sz:=by simpa using h4
 have zt:cur.toList=raw:=by rw[←h5,bd Z8]
 obtain⟨it,dt,e1,_,_,e2,_,_⟩:=hs.info;have hr:=ahC (P:=P) (ty:=o.type) (sT:=T') ht.h e1 (dLen:=d1) (dCap:=c1) (sCap:=c2) hg hk (by rw[e2];exact zx) (zv w zu) (by rw[zx,h4];exact zw) h1;rw[zt,zx] at hr;unfold bj;simp only[execOp,ho,resolve,invoke,builtin,fc,gd,gu,ha.eval hx,ha.eval hy,ab,ah,aa,hr,bf];refine hn _ _ _ ⟨rfl,rfl⟩ (BU zu hg ?_);have hrl:raw.length=c*sz:=zy.1;simp only[ae,ar,bq];omega
theorem XE {T' e by' sz g o1 o2 d1 c1 d2 c2 c k:Nat} {agg:Bool} {raw:List Value} [ht:pD P T e] [hs:Ty P e agg sz by' z'] (ho:o.op= .call { callee:= .builtin .copy,args:= #[x,y],argTypes:= #[T,T'] }) (hx:ev F x=some (.slice (some ⟨g,o1,none⟩) d1 c1)) (hy:ev F y=some (.slice (some ⟨g,o2,none⟩) d2 c2))
  (p:bQ (own (.slice (some ⟨g,0,none⟩) c c) e sz c raw) H R) (hk:acp d2 d1=k) (zy:o1+k*sz≤c*sz) (hfit2:o2+k*sz≤raw.length) (h1: ∀ v∈(raw.drop o2).take (k*sz),v.oneCell'=true):
  cN P n o F H fun r H'=>r= .int .i64 (k:Int)∧H'=own (.slice (some ⟨g,0,none⟩) c c) e sz c (raw.take o1++(raw.drop o2).take (k*sz)++raw.drop (o1+k*sz))::R:=
 FK ho hx hy p hk (by rw [ar, bq]; omega) zy (fun w hw j v hj => by
  have zx : w.ownsRow 0 e sz (.slice (some ⟨g, 0, none⟩) c c) c raw := hw.head;have zw := (aj.1 hj).1;rw [ar] at zw;rw [abm Z8, aw] at hj;have := zx.cells (g := g) rfl _ _ hj;rw [vQ] at this ⊢;rwa [dj] at this) h1
theorem wP {e by' sz g o2 m1 d2 c2 c:Nat} {agg:Bool} {raw:List Value} [ht:pD P T e] [hs:Ty P e agg sz by' z'] (ho:o.op= .call { callee:= .builtin .append,args:= #[x,y],argTypes:= #[T,T] }) (hx:ev F x=some (.slice (some ⟨g,0,none⟩) m1 c)) (hy:ev F y=some (.slice (some ⟨g,o2,none⟩) d2 c2))
  (p:bQ (own (.slice (some ⟨g,0,none⟩) c c) e sz c raw) H R) (zy:m1+d2≤c) (hfit2:o2+d2*sz≤raw.length) (h1: ∀ v∈(raw.drop o2).take (d2*sz),v.oneCell'=true):
  cN P n o F H fun r H'=>r= .slice (some ⟨g,0,none⟩) (m1+d2) c∧H'=own (.slice (some ⟨g,0,none⟩) c c) e sz c (raw.take (m1*sz)++(raw.drop o2).take (d2*sz)++raw.drop (m1*sz+d2*sz))::R:=fun Q a w next ha hw hn=>by
 have zu:=hw.perm p.perm;have zx:w.ownsRow 0 e sz (.slice (some ⟨g,0,none⟩) c c) c raw:=zu.head;obtain⟨cur,hg,h2,h3,h4,h5⟩:=uC zx;have hcl:cur.toList.length=c*sz:=by simpa using h4
 have zt:cur.toList=raw:=by rw[←h5,bd Z8]
 obtain⟨it,dt,e1,_,_,e2,_,_⟩:=hs.info;have zw:((raw.drop o2).take (d2*sz)).length=d2*sz:=by rw[ar,bq];omega
 have zv:m1*sz+d2*sz≤c*sz:=by rw[←ff];exact cr _ zy
 have hr := run_append_room (P := P) w T o.type e it ht.h e1 g m1 c cur hg ⟨g, o2, none⟩ d2 c2 ((raw.drop o2).take (d2 * sz)) (by rw [e2]; exact zw) (fun j v hj => by
  have zr := (aj.1 hj).1;rw [ar] at zr;rw [abm Z8, aw] at hj;have := zx.cells (g := g) rfl _ _ hj;rw [vQ] at this ⊢;rwa [dj] at this) h1 zy (by rw [e2, zw, h4]; exact zv)
 rw[zt,zw,e2] at hr;unfold bj;simp only[execOp,ho,resolve,invoke,builtin,fc,gd,gu,ha.eval hx,ha.eval hy,ab,ah,aa,hr,bf];refine hn _ _ _ ⟨rfl,rfl⟩ (BU zu hg ?_);have hrl:raw.length=c*sz:=zx.1;simp only[ae,ar,bq];omega
theorem AU {e by' sz g o1 c1 c k:Nat} {agg:Bool} {raw:List Value} [ht:pD P T e] [hs:Ty P e agg sz by' z'] (ho:o.op= .call { callee:= .builtin .clear,args:= #[x],argTypes:= #[T] }) (hx:ev F x=some (.slice (some ⟨g,o1,none⟩) k c1)) (p:bQ (own (.slice (some ⟨g,0,none⟩) c c) e sz c raw) H R) (hk:0<k) (zx:o1+k*sz≤c*sz) (zu: ∀ v∈pE z' k,v.oneCell'=true) (zw:(pE z' k).length=k*sz):
  cN P n o F H fun r H'=>r= .tuple #[]∧H'=own (.slice (some ⟨g,0,none⟩) c c) e sz c (raw.take o1++pE z' k++raw.drop (o1+k*sz))::R:=fun Q a w next ha hw hn=>by
 have zv:=hw.perm p.perm;have zy:w.ownsRow 0 e sz (.slice (some ⟨g,0,none⟩) c c) c raw:=zv.head;obtain⟨cur,hg,h2,h3,h4,h5⟩:=uC zy;have hcl:cur.toList.length=c*sz:=by simpa using h4
 have zt:cur.toList=raw:=by rw[←h5,bd Z8]
 obtain⟨it,dt,e1,_,_,e2,_,e4⟩:=hs.info;have hst:=run_storeCells_at P g o1 e (pE z' k) 0 cur w hg (by rw[zw];simpa [h4] using zx) zu;simp only[fl] at hst;obtain⟨k',rfl⟩: ∃ k',k=k'+1:=⟨k-1,Z8⟩;have hr:(acq #[T] o.type #[.slice (some ⟨g,o1,none⟩) (k'+1) c1]).run P w= .ok (.tuple #[]) (w.setRow g (raw.take o1++pE z' (k'+1)++raw.drop (o1+(k'+1)*sz)).toArray):=by
  rw[zt,zw] at hst;have zr:(fq z'.cells (k'+1)).toList=pE z' (k'+1):=by
   have e:=OS hs.hz (k'+1);have e9:fq z'.cells (k'+1)=(pE z' (k'+1)).toArray:=by rw[←e];unfold fq;rw[hs.hz]
   rw[e9]
  simp [acq,run_underlying ht.h,zeroValue,typeInfo,e1,e4,zr,hst]
 unfold bj;simp only[execOp,ho,resolve,invoke,builtin,fc,gd,gu,ha.eval hx,ab,ah,aa,hr,bf];refine hn _ _ _ ⟨rfl,rfl⟩ (BU zv hg ?_);have hrl:raw.length=c*sz:=zy.1;simp only[ae,ar,bq,zw];omega
theorem JZ {tn e by' sz g i c k:Nat} {agg:Bool} {raw:List Value} {kq kn:IntKind} {j:Int} [ht:pD P T e] [hs:Ty P e agg sz by' z'] [hi:AA P tn kn] (ho:o.op= .call { callee:= .builtin .append,args:= #[x,y],argTypes:= #[T,tn] }) (hx:ev F x=some (.slice (some ⟨g,0,none⟩) i c)) (hy:ev F y=some (.int kq j)) (hj:j=(k:Int)) (p:bQ (own (.slice (some ⟨g,0,none⟩) c c) e sz c raw) H R) (zv:i≤c) (h0:0<k) (hsz:Nat.blt 0 sz=true) (hg:c<i+k) (h63:i+k≤9223372036854775807) (hb:(i+k)*by'≤140737488355328) (zx:(pE z' k).length=k*sz):
  cN P n o F H fun r H'=> ∃ g' c',r= .slice (some ⟨g',0,none⟩) (i+k) c'∧H'=own (.slice (some ⟨g',0,none⟩) (i+k) c') e sz (i+k) (raw.take (i*sz)++pE z' k)::H:=fun Q a w next ha hw hn=>by
 subst hj;have zu:=hw.perm p.perm;have zy:w.ownsRow 0 e sz (.slice (some ⟨g,0,none⟩) c c) c raw:=zu.head;have hrl:raw.length=c*sz:=zy.1;obtain⟨it,dt,e1,e0,_,e2,e3,e4⟩:=hs.info;have hmc:i*sz≤c*sz:=cr _ zv;have zt: ∀ j u,(raw.take (i*sz))[j]? =some u→w.drew.cell? ((⟨g,0,none⟩:Addr).add j)=some u:=by
  intro j u hj;have zr:=(aj.1 hj).1;rw[ar] at zr;rw[abm Z8] at hj;exact zy.cells (g:=g) rfl _ _ hj
 have hold:=run_firstCells_some (P:=P) w.drew it.size i ⟨g,0,none⟩ i c (raw.take (i*sz)) (by rw[e2,ar];omega) zt;have hr:=Lib.run_append_grow_zeros (P:=P) w T tn o.type e it z' kq kn ht.h hi.h e1 e4 (some ⟨g,0,none⟩) i c (raw.take (i*sz)) hold k h0 (by rw[e2];simpa using hsz) hg Z8 (by rw[e3];have:=cr by' (show k≤i+k by omega);omega) (by rw[e3];exact growslice_fits hg hb);have e9:fq z'.cells k=(pE z' k).toArray:=by
  rw[←OS hs.hz k];unfold fq;rw[hs.hz]
 have zq:=grownCap_ge w (i+k) c e;have zn:grownCap w (i+k) c e≤maxLen:=grownCap_le_maxLen w (i+k) c e Zl;generalize grownCap w (i+k) c e=gc at*;have zm:(fq z'.cells (gc-(i+k))).size=(gc-(i+k))*sz:=by rw[size_zeroCells,hs.hz]
 generalize fq z'.cells (gc-(i+k))=zz at*;rw[e9] at hr;unfold bj;simp only[execOp,ho,resolve,invoke,builtin,fc,gd,gu,ha.eval hx,ha.eval hy,ab,ah,aa,hr,bf];refine hn _ _ _ ⟨w.heap.size,gc,rfl,rfl⟩ (aG.new hw.drew (fZ w.drew _) ?_ fun b hb=> ?_)
 ·have zw:(raw.take (i*sz)).length=i*sz:=by rw[ar];omega
  refine⟨by rw[ae,zw,zx,ff], .inr ⟨w.heap.size,gc,_,rfl,fe _,heap_alloc_new w.drew _,zq,zn, ?_, ?_⟩⟩
  ·simp only[Array.size_append,List.size_toArray,zw,zx,zm, ←ff];congr 1;omega
  ·simp only[Array.toList_append,fu];rw[←fu];refine List.take_left' ?_;rw[ae,zw,zx,ff]
 ·have:w.heap.size=b:=a7 hb;show w.heap.size≤b;omega
theorem amJ {f:FuncId} {args:List Operand} {ts:Array TypeId} {vs:List Value} {u:Value} (ho:o.op= .call { callee:= .value (.func f),args:=args.toArray,argTypes:=ts }) (hv:WZ F args=some vs) (zy: ∀ w,aG H w→(callFunc f vs.toArray).run P w= .ok (.value u) w):cN P n o F H fun v H'=>v=u∧H'=H:=fun Q a w next ha hw hn=>by
 have he:=nL ha hv;have e1:args.toArray.map a.eval=vs.toArray:=by simpa using he
 unfold bj;simp only[execOp,ho,resolve,Deferred.ofValue,Act.eval,invoke,e1,ab,ah,aa];simp only[Array.append_empty,List.append_toArray,dz,zy w hw,bf];exact hn _ _ _ ⟨rfl,rfl⟩ hw
end
end sl
namespace sl
open Go.RowKit bO
section
variable {P:Program} {Q:fW} {n:Nat} {F:eE} {H R:List Ent} {o:Oper} {x y z zz:Operand} {v u z':Value} {T S:TypeId}
theorem iE {e sz by' m c i:Nat} {agg:Bool} {q:Option Addr} {k:IntKind} {j:Int} [ht:pD P T e] [hs:Ty P e agg sz by' z'] (ho:o.op= .slice T x (some y) none none) (hx:ev F x=some (.slice q m c)) (hy:ev F y=some (.int k j)) (hj:j=(i:Int)) (hi:i≤m):Qt P n o F H (sliced q i m c sz):=fun a w ha hw=>by
 subst hj;have he:P.elem T=e:=by simp [Program.elem,ht.h]
 have hu:P.underlying T=some (.slice (P.elem T)):=by rw[he];exact ht.h
 have h1:=run_slice_l (P:=P) w T q m c hu k (i:Int) Z8 Z8;rw[he,eH hs] at h1;simp only[aa,dc] at h1;simp only[execOp,ho,ej,eo,ha.eval hx,ha.eval hy,ab,ah,run_sliceAt_slice w T _ _ _ _ hu,h1,aa]
theorem RW {e sz by' m c i h:Nat} {agg:Bool} {q:Option Addr} {k k':IntKind} {j j':Int} [ht:pD P T e] [hs:Ty P e agg sz by' z'] (ho:o.op= .slice T x (some y) (some z) none) (hx:ev F x=some (.slice q m c)) (hy:ev F y=some (.int k j)) (hz:ev F z=some (.int k' j')) (hj:j=(i:Int)) (zy:j'=(h:Int)) (hi:i≤h) (hh:h≤c):Qt P n o F H (sliced q i h c sz):=fun a w ha hw=>by
 subst hj;subst zy;have he:P.elem T=e:=by simp [Program.elem,ht.h]
 have hu:P.underlying T=some (.slice (P.elem T)):=by rw[he];exact ht.h
 have h1:=run_slice_lh (P:=P) w T q m c hu k k' (i:Int) (h:Int) Z8 Z8 Z8;rw[he,eH hs] at h1;simp only[aa,dc] at h1;simp only[execOp,ho,ej,eo,ha.eval hx,ha.eval hy,ha.eval hz,ab,ah,run_sliceAt_slice w T _ _ _ _ hu,h1,aa]
theorem aCS {e sz by' m c i h mx:Nat} {agg:Bool} {q:Option Addr} {k k' k2:IntKind} {j j' j2:Int} [ht:pD P T e] [hs:Ty P e agg sz by' z'] (ho:o.op= .slice T x (some y) (some z) (some zz)) (hx:ev F x=some (.slice q m c)) (hy:ev F y=some (.int k j)) (hz:ev F z=some (.int k' j')) (zy:ev F zz=some (.int k2 j2)) (hj:j=(i:Int)) (zx:j'=(h:Int)) (zw:j2=(mx:Int)) (hi:i≤h) (hh:h≤mx) (hm:mx≤c):Qt P n o F H (sliced q i h mx sz):=fun a w ha hw=>by
 subst hj;subst zx;subst zw;have he:P.elem T=e:=by simp [Program.elem,ht.h]
 have hu:P.underlying T=some (.slice (P.elem T)):=by rw[he];exact ht.h
 have h1:=run_slice_lhm (P:=P) w T q m c hu k k' k2 (i:Int) (h:Int) (mx:Int) Z8 Z8 Z8 Z8;rw[he,eH hs] at h1;simp only[aa,dc] at h1;simp only[execOp,ho,ej,ha.eval hx,ha.eval hy,ha.eval hz,ha.eval zy,ab,ah,run_sliceAt_slice w T _ _ _ _ hu,h1,aa]
theorem gY {g i h c sz:Nat} (hc:i<c):sliced (some ⟨g,0,none⟩) i h c sz= .slice (some ⟨g,i*sz,none⟩) (h-i) (c-i):=by
 unfold sliced;rw[Jf Z8];show jw (some ((⟨g,0,none⟩:Addr).add (i*sz))) _ _=_;rw[vQ,dj]
theorem amK {g h c sz:Nat}:sliced (some ⟨g,0,none⟩) c h c sz= .slice (some ⟨g,0,none⟩) (h-c) 0:=by
 unfold sliced;rw[Jg rfl,ku]
theorem vR {T' e by' sz g o1 d1 c1 g2 o2 d2 c2 c' c k:Nat} {agg:Bool} {raw raw2:List Value} {S:List Ent} [ht:pD P T e] [hs:Ty P e agg sz by' z'] (ho:o.op= .call { callee:= .builtin .copy,args:= #[x,y],argTypes:= #[T,T'] }) (hx:ev F x=some (.slice (some ⟨g,o1,none⟩) d1 c1)) (hy:ev F y=some (.slice (some ⟨g2,o2,none⟩) d2 c2))
  (p:bQ (own (.slice (some ⟨g,0,none⟩) c c) e sz c raw) H R) (q:bQ (own (.slice (some ⟨g2,0,none⟩) c' c') e sz c' raw2) R S) (hk:acp d2 d1=k) (zy:o1+k*sz≤c*sz) (hfit2:o2+k*sz≤raw2.length) (h1: ∀ v∈(raw2.drop o2).take (k*sz),v.oneCell'=true):
  cN P n o F H fun r H'=>r= .int .i64 (k:Int)∧H'=own (.slice (some ⟨g,0,none⟩) c c) e sz c (raw.take o1++(raw2.drop o2).take (k*sz)++raw.drop (o1+k*sz))::R:=
 FK ho hx hy p hk (by rw [ar, bq]; omega) zy (fun w hw j v hj => by
  have zx : w.ownsRow 0 e sz (.slice (some ⟨g2, 0, none⟩) c' c') c' raw2 := hw.tail.1 _ q.mem;have zw := (aj.1 hj).1;rw [ar] at zw;rw [abm Z8, aw] at hj;have := zx.cells (g := g2) rfl _ _ hj;rw [vQ] at this ⊢;rwa [dj] at this) h1
theorem acY {tS tR e sz g g2 o1 o2 d1 c1 d2 c2 c c':Nat} {agg:Bool} {by':Nat} {raw raw2:List Value} [ht:pD P tS e] [hs:Ty P e agg sz by' z'] {w:World} (p:bQ (own (.slice (some ⟨g,0,none⟩) c c) e sz c raw) H R) {S2:List Ent} (q:bQ (own (.slice (some ⟨g2,0,none⟩) c' c') e sz c' raw2) R S2) (hw:aG H w) (hc:c'*sz≠0):(Extern.SlicesOverlaps.overlaps #[tS,tS] #[tR] #[.slice (some ⟨g,o1,none⟩) d1 c1, .slice (some ⟨g2,o2,none⟩) d2 c2]).run P w= .ok (.bool false) w:=by
 have zy:=hw.perm p.perm;have h1:w.ownsRow 0 e sz (.slice (some ⟨g,0,none⟩) c c) c raw:=zy.head;have h2:w.ownsRow 0 e sz (.slice (some ⟨g2,0,none⟩) c' c') c' raw2:=zy.tail.1 _ q.mem;obtain⟨cur,hg,_,_,hs1,_⟩:=uC h1;obtain⟨cur2,zx,_,_,zw,_⟩:=uC h2;have zv:g≠g2:=fun e=>by
  subst e;exact (an.1 zy.2).1 _ q.mem (.inl rfl) g (show some g=some g from rfl) (show some g=some g from rfl)
 refine Lib.run_overlaps_apart w tS tR e ht.h sz (fun w=>eH hs w) ⟨g,o1,none⟩ ⟨g2,o2,none⟩ d1 c1 d2 c2 zv e e cur.size cur2.size ?_ ?_ (by rw[zw];exact hc) ?_ ?_
 ·simp [acw,hg]
 ·simp [acw,zx]
 ·simp [acf,hg]
 ·simp [acf,hg]
end
end sl
namespace sl
open Go.RowKit bO
def KA (q:Option Addr) (i c sz:Nat):Option Addr:=if c=i then q else q.map (·.add (i*sz))
end sl
namespace sl
open Go.RowKit bO
theorem uD {e c:Ent} {H R:List Ent} (p:bQ e H R) (hv:View [e] c):HSub H (c::R):=fun w hw=>by
 have h:=hw.perm p.perm;refine h.alR (fun hx=>by rw[hv.shared] at hx;cases hx) (hv.holds w (h.sub Ja)) fun b hb=> ?_
 obtain⟨e',he,hf⟩:=hv.lD b hb;rw[eh.1 he] at hf;exact hf
theorem bB {α:Type} {f:α→List Value} {ys:List α} {v:Value} {e sz m:Nat} {H R:List Ent} (p:bQ (own v e sz m (flat f ys)) H R) (hf: ∀ y,(f y).length=sz) (hm:m=ys.length):HSub H (sl sz v (ys.map f)::R):=
 uD p (View.own bQ.here hf hm)
theorem ahD {sz:Nat} {a b:auZ} {H R S:List Ent} (p:bQ (many sz a) H R) (q:bQ (many sz b) R S):HSub H (many sz (a++b)::S):=fun w hw=>by
 have h:=hw.perm (p.perm.trans (q.perm.cons _));have h1:=an.1 h.2;have h2:=an.1 h1.2;refine⟨fun e he=> ?_,an.2 ⟨fun f hf hx k hk zx=> ?_,h2.2⟩⟩
 ·rcases al.1 he with rfl|he
  ·intro x hx;rcases ei.1 hx with hx|hx
   ·exact h.1 (many sz a) bu x hx
   ·exact h.1 (many sz b) (a8 _ bu) x hx
  ·exact h.1 e (a8 _ (a8 _ he))
 ·rcases hx with hx|hx
  ·cases hx
  ·obtain⟨x,zy,zw⟩:=hk;rcases ei.1 zy with zy|zy
   ·exact h1.1 f (a8 _ hf) (.inr hx) k ⟨x,zy,zw⟩ zx
   ·exact h2.1 f hf (.inr hx) k ⟨x,zy,zw⟩ zx
theorem acZ {w:World} {sz N c i:Nat} {q:Option Addr} {α:Type} {f:α→List Value} {xs:List α} (h:bX w sz (.slice q N c) (xs.map f)) (hN:xs.length=N) (hi:i≤N):bX w sz (.slice (KA q i c sz) (N-i) (c-i)) ((xs.drop i).map f):=by
 rcases h with⟨h0,h1⟩|⟨b,off,cap,hv,h2,h3,h4,h5,h6⟩
 ·have hx:xs=[]:=by simpa using h0
  subst hx;have zy:N=0:=hN.symm;subst zy;have zx:i=0:=Z8
  subst zx;refine .inl ⟨rfl, ?_⟩;rcases h1 with h1|⟨ad,cap,h1⟩
  ·cases h1;exact .inl (by simp [KA])
  ·cases h1;unfold KA;split
   ·exact .inr ⟨_,_,rfl⟩
   ·exact .inr ⟨_,_,rfl⟩
 ·cases hv;simp only[gp] at h2 h4;by_cases he:i=xs.length
  ·have hd:(xs.drop i).map f=[]:=by rw[List.drop_of_length_le Z8];rfl
   rw[hd];refine .inl ⟨rfl, .inr ?_⟩;rw[gp,he,ku];unfold KA;split
   ·exact⟨_,_,rfl⟩
   ·exact⟨_,_,rfl⟩
  ·rw[gp] at hi ⊢;have hq:KA (some ⟨b,off,none⟩) i c sz=some ⟨b,off+i*sz,none⟩:=by
    unfold KA;rw[Jf Z8];show some (Addr.add _ _)=_;rw[addr_add]
   have hl:((xs.drop i).map f).length=xs.length-i:=Ja
   rw[hq];refine .inr ⟨b,off+i*sz,c-i,by rw[hl],Z8,Z8,Z8,h5,fun j r hr=> ?_⟩;rw[List.map_drop,aw] at hr;obtain⟨g1,g2⟩:=h6 (i+j) r hr;refine⟨g1,fun u x hu=> ?_⟩;have:=g2 u x hu;rwa [show off+(i+j)*sz=off+i*sz+j*sz by rw[ff];omega] at this
theorem FL {H R:List Ent} {sz N c i:Nat} {q:Option Addr} {α:Type} {f:α→List Value} {xs:List α} (p:bQ (sl sz (.slice q N c) (xs.map f)) H R) (hN:xs.length=N) (hi:i≤N):HSub H (sl sz (.slice (KA q i c sz) (N-i) (c-i)) ((xs.drop i).map f)::R):=
 uD p ⟨rfl, fun w hw => acZ (hw.1 _ bu) hN hi, fun b hb => ⟨_, bu, by
  have h1:=hb.1;have h2:=hb.2;refine⟨fun e=>h1 ?_, ?_⟩
  ·have:xs=[]:=by simpa using e
   rw[this];simp
  ·unfold KA at h2;split at h2
   ·cases q<;>exact h2
   ·cases q with
    |none=>cases h2
    |some a=>
     obtain ⟨b0, off, s⟩ := a;simp only [ej, Value.ownBlock, Addr.add] at h2 ⊢;split at h2 <;> simpa using h2⟩⟩
section
variable {P:Program} {n:Nat} {F:eE} {H R:List Ent} {o:Oper} {x y:Operand} {z':Value}
theorem uE {t e sz by' N c i:Nat} {agg:Bool} {q:Option Addr} {k:IntKind} {j:Int} [ht:pD P t e] [hs:Ty P e agg sz by' z'] (ho:o.op= .slice t x (some y) none none) (hx:ev F x=some (.slice q N c)) (hy:ev F y=some (.int k j)) (hj:j=(i:Int)) (hi:i≤N):Qt P n o F H (.slice (KA q i c sz) (N-i) (c-i)):=fun a w ha hw=>by
 subst hj;have he:P.elem t=e:=by simp [Program.elem,ht.h]
 have hu:P.underlying t=some (.slice (P.elem t)):=by rw[he];exact ht.h
 have h1:=run_slice_l (P:=P) (w:=w) (t:=t) (a:=q) (len:=N) (cap:=c) hu k (i:Int) Z8 Z8;rw[he,eH hs,dc] at h1;simp only[aa] at h1;simp only[execOp,ho,ej,eo,ha.eval hx,ha.eval hy,ab,ah,run_sliceAt_slice w t _ _ _ _ hu,h1,aa];rfl
end
end sl
end Go.Proofs.YtbjalbcdbgcgdaaGreat
namespace Go.Proofs
open Go.Shelf
def Tryz.ahT:Go.Shelf.Ren:=⟨fun|125=>243|128=>290|129=>291|n=>n,fun|46=>330|3=>3|51=>322|53=>165|4=>4|5=>5|9=>9|n=>n,fun|n=>n⟩
theorem Tryz.aKT:Go.Proofs.Lays.n125 lk Tryz.ahT:={
 mixed:=Jd
 f125:=Tryz.func243.trans (congrArg some Jd)
 f128:=Tryz.func290.trans (congrArg some Jd)
 f129:=Tryz.func291.trans (congrArg some Jd)
 t3:=Tryz.underlying3
 a3:=Tryz.isAgg3
 z3:=Tryz.sizeOf3
 v3:=Tryz.zeroValue3
 t4:=Tryz.underlying4
 a4:=Tryz.isAgg4
 z4:=Tryz.sizeOf4
 v4:=Tryz.zeroValue4
 t5:=Tryz.underlying5
 a5:=Tryz.isAgg5
 z5:=Tryz.sizeOf5
 v5:=Tryz.zeroValue5
 t9:=Tryz.underlying9
 a9:=Tryz.isAgg9
 z9:=Tryz.sizeOf9
 v9:=Tryz.zeroValue9
 t46:=Tryz.underlying330
 a46:=Tryz.isAgg330
 z46:=Tryz.sizeOf330
 v46:=Tryz.zeroValue330
 t51:=Tryz.underlying322
 a51:=Tryz.isAgg322
 z51:=Tryz.sizeOf322
 v51:=Tryz.zeroValue322
 t53:=Tryz.underlying165
 a53:=Tryz.isAgg165
 z53:=Tryz.sizeOf165
 v53:=Tryz.zeroValue165 }
theorem Tryz.bits_Len (x:Int) (w:World) (h0:0≤x) (h1:x≤18446744073709551615):Calls lk 243 #[.int .u64 x] w fun e w'=>e= .returned (.int .i64 (Lib.bitLen x.toNat))∧w'=w:=Any.bits_Len Tryz.aKT x w h0 h1
def Tryz.ahU:Go.Shelf.Ren:=⟨fun|106=>253|213=>293|265=>332|n=>n,fun|9=>9|3=>3|n=>n,fun|n=>n⟩
theorem Tryz.aKU:Go.Proofs.Lays.n106 lk Tryz.ahU:={
 mixed:=Jd
 f106:=Tryz.func253.trans (congrArg some Jd)
 f213:=Tryz.func293.trans (congrArg some Jd)
 f265:=Tryz.func332.trans (congrArg some Jd)
 t3:=Tryz.underlying3
 a3:=Tryz.isAgg3
 z3:=Tryz.sizeOf3
 v3:=Tryz.zeroValue3
 t9:=Tryz.underlying9
 a9:=Tryz.isAgg9
 z9:=Tryz.sizeOf9
 v9:=Tryz.zeroValue9 }
open Go.RowKit in
theorem Tryz.strings_Compare (a b:ByteArray) (w:World):
  Calls lk 253 #[.string a, .string b] w fun e w'=>e= .returned (.int .i64 (Lib.compareBytes a.data.toList b.data.toList))∧w'=w:=Any.strings_Compare Tryz.aKU a b w
def Tryz.ahV:Go.Shelf.Ren:=⟨fun|137=>209|217=>254|266=>294|n=>n,fun|9=>9|5=>5|3=>3|n=>n,fun|n=>n⟩
theorem Tryz.aKV:Go.Proofs.Lays.n137 lk Tryz.ahV:={
 mixed:=Jd
 f137:=Tryz.func209.trans (congrArg some Jd)
 f217:=Tryz.func254.trans (congrArg some Jd)
 f266:=Tryz.func294.trans (congrArg some Jd)
 t3:=Tryz.underlying3
 a3:=Tryz.isAgg3
 z3:=Tryz.sizeOf3
 v3:=Tryz.zeroValue3
 t5:=Tryz.underlying5
 a5:=Tryz.isAgg5
 z5:=Tryz.sizeOf5
 v5:=Tryz.zeroValue5
 t9:=Tryz.underlying9
 a9:=Tryz.isAgg9
 z9:=Tryz.sizeOf9
 v9:=Tryz.zeroValue9 }
open Go.RowKit in
theorem Tryz.strings_IndexByte (s:ByteArray) (c:Int) (w:World):
  Calls lk 209 #[.string s, .int .u8 c] w fun e w'=>e= .returned (.int .i64 (Lib.indexByte s.data.toList c.toNat.toUInt8))∧w'=w:=Any.strings_IndexByte Tryz.aKV s c w
def Tryz.ahW:Go.Shelf.Ren:=⟨fun|138=>259|195=>300|218=>301|143=>302|219=>337|217=>254|225=>335|224=>334|267=>348|266=>294|314=>355|n=>n,fun|9=>9|3=>3|4=>4|5=>5|0=>0|46=>330|146=>397|51=>322|n=>n,fun|1=>0|n=>n⟩
theorem Tryz.aKW:Go.Proofs.Lays.n138 lk Tryz.ahW:={
 mixed:=Jd
 f138:=Tryz.func259.trans (congrArg some Jd)
 f143:=Tryz.func302.trans (congrArg some Jd)
 f195:=Tryz.func300.trans (congrArg some Jd)
 f217:=Tryz.func254.trans (congrArg some Jd)
 f218:=Tryz.func301.trans (congrArg some Jd)
 f219:=Tryz.func337.trans (congrArg some Jd)
 f224:=Tryz.func334.trans (congrArg some Jd)
 f225:=Tryz.func335.trans (congrArg some Jd)
 f266:=Tryz.func294.trans (congrArg some Jd)
 f267:=Tryz.func348.trans (congrArg some Jd)
 f314:=Tryz.func355.trans (congrArg some Jd)
 t0:=Tryz.underlying0
 a0:=Tryz.isAgg0
 z0:=Tryz.sizeOf0
 v0:=Tryz.zeroValue0
 t3:=Tryz.underlying3
 a3:=Tryz.isAgg3
 z3:=Tryz.sizeOf3
 v3:=Tryz.zeroValue3
 t4:=Tryz.underlying4
 a4:=Tryz.isAgg4
 z4:=Tryz.sizeOf4
 v4:=Tryz.zeroValue4
 t5:=Tryz.underlying5
 a5:=Tryz.isAgg5
 z5:=Tryz.sizeOf5
 v5:=Tryz.zeroValue5
 t9:=Tryz.underlying9
 a9:=Tryz.isAgg9
 z9:=Tryz.sizeOf9
 v9:=Tryz.zeroValue9
 t46:=Tryz.underlying330
 a46:=Tryz.isAgg330
 z46:=Tryz.sizeOf330
 v46:=Tryz.zeroValue330
 t51:=Tryz.underlying322
 a51:=Tryz.isAgg322
 z51:=Tryz.sizeOf322
 v51:=Tryz.zeroValue322
 t146:=Tryz.underlying397
 a146:=Tryz.isAgg397
 z146:=Tryz.sizeOf397
 v146:=Tryz.zeroValue397
 g1:=by kernel_rfl }
open Go.RowKit Go.Lib in
theorem Tryz.strings_Count_one (s:ByteArray) (c:UInt8) (w:World):
  Calls lk 259 #[.string s, .string ⟨#[c]⟩] w fun e w'=>e= .returned (.int .i64 (Lib.countByte s.data.toList c))∧w'=w:=Any.strings_Count_one Tryz.aKW s c w
def Tryz.ahX:Go.Shelf.Ren:=⟨fun|150=>210|153=>255|152=>295|226=>296|227=>297|228=>298|137=>209|119=>333|224=>334|225=>335|217=>254|266=>294|n=>n,fun|9=>9|4=>4|3=>3|5=>5|21=>21|117=>382|116=>381|0=>0|46=>330|124=>419|n=>n,fun|n=>n⟩
theorem Tryz.aKX:Go.Proofs.Lays.n150 lk Tryz.ahX:={
 mixed:=Jd
 f119:=Tryz.func333.trans (congrArg some Jd)
 f137:=Tryz.func209.trans (congrArg some Jd)
 f150:=Tryz.func210.trans (congrArg some Jd)
 f152:=Tryz.func295.trans (congrArg some Jd)
 f153:=Tryz.func255.trans (congrArg some Jd)
 f217:=Tryz.func254.trans (congrArg some Jd)
 f224:=Tryz.func334.trans (congrArg some Jd)
 f225:=Tryz.func335.trans (congrArg some Jd)
 f226:=Tryz.func296.trans (congrArg some Jd)
 f227:=Tryz.func297.trans (congrArg some Jd)
 f228:=Tryz.func298.trans (congrArg some Jd)
 f266:=Tryz.func294.trans (congrArg some Jd)
 t0:=Tryz.underlying0
 a0:=Tryz.isAgg0
 z0:=Tryz.sizeOf0
 v0:=Tryz.zeroValue0
 t3:=Tryz.underlying3
 a3:=Tryz.isAgg3
 z3:=Tryz.sizeOf3
 v3:=Tryz.zeroValue3
 t4:=Tryz.underlying4
 a4:=Tryz.isAgg4
 z4:=Tryz.sizeOf4
 v4:=Tryz.zeroValue4
 t5:=Tryz.underlying5
 a5:=Tryz.isAgg5
 z5:=Tryz.sizeOf5
 v5:=Tryz.zeroValue5
 t9:=Tryz.underlying9
 a9:=Tryz.isAgg9
 z9:=Tryz.sizeOf9
 v9:=Tryz.zeroValue9
 t21:=Tryz.underlying21
 a21:=Tryz.isAgg21
 z21:=Tryz.sizeOf21
 v21:=Tryz.zeroValue21
 t46:=Tryz.underlying330
 a46:=Tryz.isAgg330
 z46:=Tryz.sizeOf330
 v46:=Tryz.zeroValue330
 t116:=Tryz.underlying381
 a116:=Tryz.isAgg381
 z116:=Tryz.sizeOf381
 t117:=Tryz.underlying382
 a117:=Tryz.isAgg382
 z117:=Tryz.sizeOf382
 v117:=Tryz.zeroValue382
 t124:=Tryz.underlying419
 a124:=Tryz.isAgg419
 z124:=Tryz.sizeOf419
 v124:=Tryz.zeroValue419 }
def Tryz.sU:Go.Shelf.Ren:=⟨fun|105=>221|212=>261|99=>141|165=>262|166=>225|170=>263|169=>226|263=>309|264=>310|206=>207|240=>268|241=>311|276=>317|277=>343|n=>n,fun|9=>9|3=>3|4=>4|20=>20|0=>0|46=>330|109=>347|5=>5|72=>313|76=>316|51=>322|146=>397|53=>165|148=>399|70=>311|37=>292|75=>315|127=>360|164=>403|80=>318|n=>n,fun|n=>n⟩
theorem Tryz.aY:Go.Proofs.Lays.n105 lk Tryz.sU:={
 mixed:=Jd
 f99:=Tryz.func141.trans (congrArg some Jd)
 f105:=Tryz.func221.trans (congrArg some Jd)
 f165:=Tryz.func262.trans (congrArg some Jd)
 f166:=Tryz.func225.trans (congrArg some Jd)
 f169:=Tryz.func226.trans (congrArg some Jd)
 f170:=Tryz.func263.trans (congrArg some Jd)
 f206:=Tryz.func207.trans (congrArg some Jd)
 f212:=Tryz.func261.trans (congrArg some Jd)
 f240:=Tryz.func268.trans (congrArg some Jd)
 f241:=Tryz.func311.trans (congrArg some Jd)
 f263:=Tryz.func309.trans (congrArg some Jd)
 f264:=Tryz.func310.trans (congrArg some Jd)
 f276:=Tryz.func317.trans (congrArg some Jd)
 f277:=Tryz.func343.trans (congrArg some Jd)
 t0:=Tryz.underlying0
 a0:=Tryz.isAgg0
 z0:=Tryz.sizeOf0
 v0:=Tryz.zeroValue0
 t3:=Tryz.underlying3
 a3:=Tryz.isAgg3
 z3:=Tryz.sizeOf3
 v3:=Tryz.zeroValue3
 t4:=Tryz.underlying4
 a4:=Tryz.isAgg4
 z4:=Tryz.sizeOf4
 v4:=Tryz.zeroValue4
 t5:=Tryz.underlying5
 a5:=Tryz.isAgg5
 z5:=Tryz.sizeOf5
 v5:=Tryz.zeroValue5
 t9:=Tryz.underlying9
 a9:=Tryz.isAgg9
 z9:=Tryz.sizeOf9
 v9:=Tryz.zeroValue9
 t20:=Tryz.underlying20
 a20:=Tryz.isAgg20
 z20:=Tryz.sizeOf20
 v20:=Tryz.zeroValue20
 t37:=Tryz.underlying292
 a37:=Tryz.isAgg292
 z37:=Tryz.sizeOf292
 v37:=Tryz.zeroValue292
 t46:=Tryz.underlying330
 a46:=Tryz.isAgg330
 z46:=Tryz.sizeOf330
 v46:=Tryz.zeroValue330
 t51:=Tryz.underlying322
 a51:=Tryz.isAgg322
 z51:=Tryz.sizeOf322
 v51:=Tryz.zeroValue322
 t53:=Tryz.underlying165
 a53:=Tryz.isAgg165
 z53:=Tryz.sizeOf165
 v53:=Tryz.zeroValue165
 t70:=Tryz.underlying311
 a70:=Tryz.isAgg311
 z70:=Tryz.sizeOf311
 v70:=Tryz.zeroValue311
 t72:=Tryz.underlying313
 a72:=Tryz.isAgg313
 z72:=Tryz.sizeOf313
 v72:=Tryz.zeroValue313
 t75:=Tryz.underlying315
 a75:=Tryz.isAgg315
 z75:=Tryz.sizeOf315
 v75:=Tryz.zeroValue315
 t76:=Tryz.underlying316
 a76:=Tryz.isAgg316
 z76:=Tryz.sizeOf316
 v76:=Tryz.zeroValue316
 t109:=Tryz.underlying347
 a109:=Tryz.isAgg347
 z109:=Tryz.sizeOf347
 v109:=Tryz.zeroValue347
 t127:=Tryz.underlying360
 a127:=Tryz.isAgg360
 z127:=Tryz.sizeOf360
 v127:=Tryz.zeroValue360
 t146:=Tryz.underlying397
 a146:=Tryz.isAgg397
 z146:=Tryz.sizeOf397
 v146:=Tryz.zeroValue397
 t148:=Tryz.underlying399
 a148:=Tryz.isAgg399
 z148:=Tryz.sizeOf399
 v148:=Tryz.zeroValue399
 t164:=Tryz.underlying403
 a164:=Tryz.isAgg403
 z164:=Tryz.sizeOf403
 v164:=Tryz.zeroValue403 }
theorem Tryz.kU:Builder.Extra lk Tryz.sU:={
 sizeBuilder:=Jd
 liesBuilder:=Jd
 t5:=Tryz.underlying5
 a5:=Tryz.isAgg5
 z5:=Tryz.sizeOf5
 v5:=Tryz.zeroValue5
 infoByte:=Jd
 cellsByte:=Jd
 sizeByte:=Jd
 neB5:=by decide }
open Go.RowKit Go.Lib in
theorem Tryz.strings_Repeat (s:ByteArray) (c:Nat) (w:World) (hc:c≤9223372036854775807) (hlen:s.size*c≤140737488355328):
  Calls lk 221 #[.string s, .int .i64 c] w fun e w'=>e= .returned (.string ⟨(Lib.repeatL s.data.toList c).toArray⟩)∧Below w.heap.size w w':=Any.strings_Repeat Tryz.aY Tryz.kU s c w hc hlen
end Go.Proofs
namespace Go.Proofs.YtbjalbcdbgcgdaaGreat
namespace file
open Go.RowKit bO sl
def fT (l:List UInt8):List Value:=[.string (str l)]
theorem QR (l:List UInt8): ∀ u∈fT l,u.oneCell'=true:=by simp [fT,a6]
instance (priority := 2000) eqT {P : Program} {T : TypeId} [hs : EB P T] : EqV P T (fun l : List UInt8 => Value.string (str l)) := ⟨fun op x y p q w => by simp [eqGuard], fun p w => by simp [binOp, Op.stringOp], fun p q w zy => by
 have h:(str p).data≠(str q).data:=fun e=>zy (by simpa using e)
 simp [binOp, Op.stringOp, zy]⟩
theorem SI (c:Nat) (hc:c≤1000000):Ct lk 221 [.string (str [0]), .int .i64 (c:Int)] [] fun v H'=>v= .string (str (du c 0))∧H'=[]:=
 bK fun w _=>by
  have h:=Tryz.strings_Repeat (str [0]) c w Z8 (by show 1*c≤_;omega);have e:Lib.repeatL (str [0]).data.toList c=du c 0:=by
   show Lib.repeatL [0] c=_;clear h;induction c with
   |zero=>rfl
   |succ c ih=>show 0::Lib.repeatL [0] c=_;rw[ih Z8];rfl
  rw[e] at h;exact h
def aQ (n:Nat):Nat:=(n+511)/512
def cX (n i:Nat):Nat:=min 512 (n-512*i)
attribute [local irreducible] box own sl bL aH bJ Qt cN cM dG dL eQ
theorem aaJ (n:Nat) (hn:n≤1000000):Ct lk 224 [.int .i64 (n:Int)] [] fun v H'=>v= .int .i64 (aQ n:Int)∧H'=[]:=by
 have e:(aQ n:Int)=((n:Int)+512-1)/512:=by unfold aQ;omega
 rw[e];(refine Ye Tryz.func224 Tryz.ntmps224 ?_;intro Fr);refine bM ?_;exact Ea (x:=⟨rfl,rfl⟩)
theorem FW (n i:Nat) (hn:n≤1000000) (hi:512*i≤n):Ct lk 218 [.int .i64 (n:Int), .int .i64 (i:Int)] [] fun v H'=>v= .int .i64 (cX n i:Int)∧H'=[]:=by
 have e:(cX n i:Int)=min 512 ((n:Int)-i*512):=by unfold cX;omega
 rw[e];(refine Ye Tryz.func218 Tryz.ntmps218 ?_;intro Fr);refine bM ?_;exact Ea (x:=⟨rfl,rfl⟩)
theorem xR {n i:Nat} (h:i<aQ n):512*i<n:=by unfold aQ at h;omega
theorem jX (n i:Nat):cX n i≤512:=by unfold cX;omega
def gA (n:Nat) (ps:List (List UInt8)):Prop:=n≤4096∧ps.length=aQ n∧ ∀ (i:Nat) s,ps[i]? =some s→s≠[]→s.length=cX n i
open Classical in
noncomputable def kR (n:Int) (ps:List (List UInt8)):Int:=if n<0∨4096<n then 2 else if gA n.toNat ps then 0 else 4
theorem jQ {n:Nat} {ps:List (List UInt8)} (h:gA n ps):kR n ps=0:=by
 unfold kR;rw[Jf (by have:=h.1;omega),Jg (by rw[dc];exact h)]
theorem bP (q:Option Addr) (c:Nat) (n:Int) (ps:List (List UInt8)) (hp:ps.length≤9223372036854775807) (hs: ∀ s∈ps,s.length≤9223372036854775807):
  Ct lk 154 [.agg #[.int .i64 n, .slice q ps.length c]] [sl 1 (.slice q ps.length c) (ps.map fT)] fun v H'=>v= .int .i64 (kR n ps)∧H'=[]:=by
 by_cases h0:n<0
 ·have e:kR n ps=2:=by unfold kR;rw[Jg (.inl h0)]
  rw[e];(refine Ye Tryz.func154 Tryz.ntmps154 ?_;intro Fr);(refine bF ?_;intro b);exact Ea (x:=⟨rfl,rfl⟩)
 ·by_cases h1:4096<n
  ·have e:kR n ps=2:=by unfold kR;rw[Jg (.inr h1)]
   rw[e];(refine Ye Tryz.func154 Tryz.ntmps154 ?_;intro Fr);(refine bF ?_;intro b);exact Ea (x:=⟨rfl,rfl⟩)
  ·obtain⟨m,rfl⟩: ∃ m:Nat,n=(m:Int):=⟨n.toNat,Z8⟩;have P0:=aaJ m Z8;have zw: ¬ gA m ps→kR m ps=4:=fun h=>by unfold kR;rw[Jf Z8,Jf (by rw[dc];exact h)]
   by_cases h2:(ps.length:Int)=(aQ m:Int)
   ·(refine Ye Tryz.func154 Tryz.ntmps154 ?_;intro Fr);(repeat' (first|refine Y1 ?_|(refine Wb ?_;intro b)|refine Wc (P0 ..) ?_|fail));(refine cU (σ:=Nat) (fun k=>k≤ps.length∧ ∀ (i:Nat),i<k→ ∀ s,ps[i]? =some s→s≠[]→s.length=cX m i) (fun k=>[(23, .int .i64 (k:Int))]) (fun k=>ps.length-k) (0) (by exact⟨Z8,fun i hi=>absurd hi Z8⟩) Ze (fun k ⟨hk,hd⟩=> ?_);refine Da ?_);rcases ig k ps.length with hlt|hge
    ·obtain⟨s,zy⟩: ∃ s,ps[k]? =some s:=⟨_,ak hlt⟩;have hsl:=hs s (jg zy);have zv:k<aQ m:=Z8
     have L0:=FW m k Z8 (by have:=xR zv;omega);by_cases e1:s=[]
     ·have e2:(s==[])=true:=by rw[e1];rfl
      refine bM ?_;refine Ee (k+1) ?_ ?_
      ·refine⟨hlt,fun i hi t ht zx=> ?_⟩;rcases ig i k with h|h
       ·exact hd i h t ht zx
       ·have:i=k:=Z8
        subst this;rw[zy] at ht;cases ht;exact absurd e1 zx
      ·show ps.length-(k+1)<ps.length-k;omega
     ·have e2:(s==[])=false:=by simpa using e1
      by_cases e3:(s.length:Int)=(cX m k:Int)
      ·refine QT ?_;refine Ee (k+1) ?_ ?_
       ·refine⟨hlt,fun i hi t ht zx=> ?_⟩;rcases ig i k with h|h
        ·exact hd i h t ht zx
        ·have:i=k:=Z8
         subst this;rw[zy] at ht;cases ht;omega
       ·show ps.length-(k+1)<ps.length-k;omega
      ·have e:=zw fun h=>e3 (by rw[h.2.2 k s zy e1])
       rw[e];refine QT ?_;exact Ea (x:=⟨rfl,rfl⟩)
    ·have e:kR m ps=0:=jQ ⟨Z8,Z8,fun i s hi=>hd i (by have:=(aj.1 hi).1;omega) s hi⟩;rw[e];refine bM ?_;exact Ea (x:=⟨rfl,rfl⟩)
   ·have e:=zw fun h=>h2 (by rw[h.2.1])
    rw[e];(refine Ye Tryz.func154 Tryz.ntmps154 ?_;intro Fr);(repeat' (first|refine Y1 ?_|(refine Wb ?_;intro b)|refine Wc (P0 ..) ?_|fail));exact Ea (x:=⟨rfl,rfl⟩)
end file
namespace flip
open Go.RowKit
def iS (n:Nat):Nat→Nat
 |0=>0
 |k+1=>iS n k*2+n/2^k%2
theorem GB (n k:Nat):iS n k<2^k:=by
 induction k with
 |zero=>simp [iS]
 |succ k ih=>rw[iS,n8];omega
theorem aaN (n k i:Nat):(iS n k).testBit i=(decide (i<k)&&n.testBit (k-1-i)):=by
 induction k generalizing i with
 |zero=>simp [iS]
 |succ k ih=>
  cases i with
  |zero=>
   rw[iS,ack,Nat.testBit_eq_decide_div_mod_eq];simp
  |succ i=>
   rw[iS,Nat.testBit_succ];have e:(iS n k*2+n/2^k%2)/2=iS n k:=Z8
   rw[e,ih];by_cases h:i<k
   ·have e2:k-1-i=k+1-1-(i+1):=Z8
    simp [h,e2]
   ·simp [h]
attribute [local go_sem] bO.acB bO.OQ
theorem sP (a b:Nat) (ha:a<18446744073709551616) (hb:b<9223372036854775808):bits BinOp.or jz (jz.wrap ((b:Int)*2)) (bits BinOp.and jz (a:Int) 1)=((b*2+a%2:Nat):Int):=by
 have e1:bits BinOp.and jz (a:Int) 1=((a%2:Nat):Int):=by
  rw[show (1:Int)=((1:Nat):Int) from rfl,u64_and_nat a 1 ha Z9,nat_mask1]
 have e2:jz.wrap ((b:Int)*2)=((b*2:Nat):Int):=by
  rw[IntKind.wrap_u64];omega
 rw[e1,e2,u64_or_nat _ _ Z8 Z8];congr 1;exact nat_join 1 (b*2) (a%2) Z8 Z8
theorem aDR (n:Nat) (w:Int) (h1:n<18446744073709551616) (W:World):Calls lk 340 #[.int .u64 n, .int .i64 w] W fun e w'=>e= .returned (.int .u64 (iS n (max 0 (min 64 w)).toNat))∧W=w':=by
 obtain⟨m,hm⟩: ∃ m:Nat,max 0 (min 64 w)=(m:Int):=⟨(max 0 (min 64 w)).toNat,Z8⟩;have hm64:m≤64:=Z8
 have HM:=Lib.hid hm;clear hm
 go_enter Tryz.func340,Tryz.ntmps340
 go_wp2_with (fail)
 rw[HM.out]
 go_loop [0,5,10] (fun x y i=> ∃ k:Nat,k≤m∧i= .int .i64 k∧x= .int .u64 ((n/2^k:Nat):Int)∧y= .int .u64 (iS n k)) (fun _ _ i=>(64-intOf i).toNat)
 case atStart=>exact⟨0,Z8,rfl,Ja,rfl⟩
 case round=>
  obtain⟨k,hk,rfl,rfl,rfl⟩:=hrel;by_cases hlt:k<m
  ·go_wp2
   go_round
   case rel=>
    refine⟨k+1,Z8,by go_num, ?_, ?_⟩
    ·refine bO.nJ ?_;rw[n8, ←aaj];rfl
    ·have hb:iS n k<2^63:=di (GB n k) (mr Z8 Z8);have ha:n/2^k<18446744073709551616:=Nat.lt_of_le_of_lt (Nat.div_le_self _ _) h1;exact bO.nJ (sP _ _ ha hb)
   case measure=>simp [intOf];omega
  ·obtain rfl:k=m:=Z8
   go_wp2
   go_ret
   exact⟨by rw[HM.out];rfl,rfl⟩
end flip
namespace bO
open Go.RowKit
def TD (w:World) (B:Nat) (e:TypeId) (v:Value) (l:List UInt8):Prop:=
 ∃ (g cap:Nat) (cur:Array Value) (fr:Nat×Nat),v= .slice (some ⟨g,0,none⟩) l.length cap∧B≤g∧w.heap[g]? =some (.cells cur e fr)∧(fr=(0,0)∨cap≤fr.1)∧l.length≤cap∧cap≤maxLen∧cur.size=cap∧
  cur.toList.take l.length=aZ l
theorem TD.kept {w w':World} {B:Nat} {e:TypeId} {v:Value} {l:List UInt8} (h:TD w B e v l) (hg:w.grownBy w' none):TD w' B e v l:=by
 obtain⟨g,cap,cur,fr,rfl,h1,h2,r⟩:=h;exact⟨g,cap,cur,fr,rfl,h1,by rw[hg.block g (dn.1 h2).1 Ja];exact h2,r⟩
theorem TD.str {P:Program} {w:World} {B src dst e:TypeId} {v:Value} {l:List UInt8} (h:TD w B e v l) (hs:P.underlying src=some (.slice e)) (he:P.underlying e=some (.int .u8)) (hd:P.underlying dst=some .string):(convert src dst v).run P w= .ok (.string ⟨l.toArray⟩) w:=by
 obtain⟨g,cap,cur,fr,rfl,h1,h2,h3,h4,h5,h6,h7⟩:=h;refine run_convert_bytes_back w src dst e ⟨g,0,none⟩ cap l hs he hd ?_;intro j hj;have zy:(⟨g,0,none⟩:Addr).add j=⟨g,j,none⟩:=by unfold Addr.add;split<;>simp_all
 rw[zy,cell_of_row _ _ _ _ _ _ h2];have e1:(cur.toList.take l.length)[j]? =some (.int .u8 (l[j].toNat:Int)):=by rw[h7];simp [aZ,hj]
 rw[au,Jg hj] at e1;simpa using e1
theorem KK {P:Program} {w0 w:World} {ops:Array Oper} {rest:List Oper} {o:Oper} {a:Act} {Q:Exit→Act→World→Prop} (zx:o.guard=none) (src dst e:TypeId) (x:Operand) (ho:o.op= .convert src dst x) (hs:P.underlying src=some .string) (hd:P.underlying dst=some (.slice e)) (he:P.underlying e=some (.int .u8)) (s:ByteArray) (hsz:s.size≤maxLen) (hx:a.eval x= .string s) {B:Nat} (hb:Below B w0 w) (hB:B≤w.heap.size) (h: ∀ v w',TD w' B e v s.data.toList→Below B w0 w'→wpList P ops Q rest (a.put o.dst v) w'):wpList P ops Q (o::rest) a w:=by
 refine wpList_plain zx fun K hK=> ?_
 unfold bj execOp;simp only[ho,hx,ab,ah,aa,run_bytes_of_string w src dst e s hs hd he];have zw:=grownCap_ge w s.size 0 e;have zy:(bytesRow s (grownCap w s.size 0 e)).size=grownCap w s.size 0 e:=by
  simp [bytesRow];have:s.data.size=s.size:=rfl;omega
 refine hK _ _ (h _ _ ⟨w.heap.size,grownCap w s.size 0 e,_,_, ?_,hB,heap_alloc_new w.drew _, .inr ?_, ?_,grownCap_le_maxLen w s.size 0 e hsz,zy, ?_⟩ (hb.drew.alloc hB _))
 ·rw[←Lib.size_eq]
 ·rw[zy];exact df _
 ·rw[←Lib.size_eq];exact zw
 ·simp [bytesRow,aZ]
theorem adG {P:Program} {t e:TypeId} {z:Value} (hT:kS P t e 1 1 z) (ty:TypeId) {w:World} {B:Nat} {v:Value} {l:List UInt8} (zu:TD w B e v l) (b:UInt8) (ad:Addr) (hc:w.cell? ad=some (.int .u8 (b.toNat:Int))) (hl:l.length+1≤1000000) (hB:B≤w.heap.size): ∃ v' w',(Builtin.append_ #[t,t] ty #[v, .slice (some ad) 1 1]).run P w= .ok v' w'∧TD w' B e v' (l++[b])∧Below B w w':=by
 obtain⟨h1,h2,h3,i,zq,zn,zx,zm⟩:=hT;obtain⟨g,cap,cur,fr,rfl,k1,k2,k3,k4,k5,k6,k7⟩:=zu;have zt: ∀ (a:Addr),a.add 0=a:=fun a=>by simp [Addr.add]
 have zw: ∀ j u,[gh .u8 (b.toNat:Int)][j]? =some u→w.cell? (ad.add j)=some u:=by
  intro j u hj
  match j,hj with
  |0,hj=>rw[zt,hc];simpa using hj
 have zv: ∀ j u,(aZ l)[j]? =some u→w.cell? ⟨g,j,none⟩=some u:=by
  intro j u hj;rw[←k7,au] at hj;split at hj
  ·rw[cell_of_row _ _ _ _ _ _ k2];simpa using hj
  ·cases hj
 have hlb:(aZ l).length=l.length:=by simp [aZ]
 by_cases hr:l.length+1≤cap
 ·have zy:=run_append_room_cells (P:=P) w t ty e i h1 zq g 0 l.length cap ad 1 1 [.int .u8 (b.toNat:Int)] (by simp [zx]) zw (by simp [a6]) hr
   (fun j hj => by
    have zr:j=0:=by simpa using hj
    subst zr;rw [cell_of_row _ _ _ _ _ _ k2, zx];simp;omega)
   (fun j hj => by
    have zr:j=0:=by simpa using hj
    subst zr;simp [acf,k2,zx];rcases k3 with rfl|k3
    ·simp
    ·omega)
  refine⟨_,_,zy,⟨g,cap,cur.setIfInBounds l.length (.int .u8 (b.toNat:Int)),fr,Ja,k1, ?_,k3,by simpa using hr,k5,by simpa using k6, ?_⟩, ?_⟩
  ·simp only[zx,dj,gy,acr];rw[setCell_eq_setRow w g l.length cur e fr _ k2];exact setRow_heap w g cur _ e _ k2
  ·rw[←fV l b _ rfl, ←k7];apply ep;intro j;simp only[Array.toList_setIfInBounds,ae,List.length_singleton,au,ic,dr,ar,Array.length_toList];by_cases h5:j<l.length
   ·rw[Jg Z8,Jf Z8,Jg Z8,Jg Z8]
   ·by_cases h6:j=l.length
    ·subst h6;rw[Jg Z8,Jg rfl,Jg Z8,Jf Z8];rw[show l.length-min l.length cur.size=0 from by omega];rfl
    ·rw[Jf Z8,Jf Z8];symm;apply je;simp;omega
  ·simp only[zx,dj,gy,acr];exact (Below.refl _ _).setCell (p:=⟨g,l.length,none⟩) k1 _
 ·obtain ⟨v', w', zy, r1, r2⟩ := run_append_arg_grows (P := P) w t ty e i z 1 1 h1 zq zn zx zm h2 h3 ⟨g, 0, none⟩ l.length cap (aZ l) (by simp [aZ]) (fun j u hj => by
    have:(⟨g,0,none⟩:Addr).add j=⟨g,j,none⟩:=by unfold Addr.add;split<;>simp_all
    rw [this]; exact zv j u hj) ad 1 1 [.int .u8 (b.toNat : Int)] Ja zw Z8 Zl Z8
  refine⟨v',w',zy, ?_,⟨r2.os,r2.tape,r2.output,r2.size,fun k hk=>r2.block k Z8 Ja⟩⟩;rw[fV l b _ rfl] at r1;rcases r1.2 with⟨rfl,h0⟩|⟨g2,cap2,cur2,rfl,hb2,zl,m1,m2,m3,m4⟩
  ·omega
  ·exact⟨g2,cap2,cur2,_,Ja,Z8,zl, .inl rfl,by simpa using m1,m2,by simpa using m3,by simpa using m4⟩
theorem TE {P:Program} {w:World} {B:Nat} {t e:TypeId} {z:Value} (hT:kS P t e 1 1 z) {ops:Array Oper} {rest:List Oper} {o:Oper} {a:Act} {Q:Exit→Act→World→Prop} (zw:o.guard=none) (s x:Operand) (ho:o.op= .call { callee:= .builtin .append,args:= #[s,x],argTypes:= #[t,t] })
  (v:Value) (l:List UInt8) (n:Int) (b:UInt8) (hn:n=(b.toNat:Int)) (hs:a.eval s=v) (hx:a.eval x= .slice (some ⟨w.heap.size,0,none⟩) 1 1)
  (zy:TD w B e v l) (hl:l.length+1≤1000000) (hB:B≤w.heap.size)
  (h: ∀ v' w',TD w' B e v' (l++[b])→Below B w w'→wpList P ops Q rest (a.put o.dst v') w'):
  wpList P ops Q (o::rest) a (w.alloc (.cells #[.int .u8 n] e)):=by
 subst hn;refine wpList_plain zw fun K hK=> ?_
 obtain⟨v',w',zx,r1,r2⟩:=adG hT o.type (zy.kept (World.grownBy_alloc w (.cells #[.int .u8 (b.toNat:Int)] e) none)) b ⟨w.heap.size,0,none⟩ (aAJ rfl rfl) hl Zq;unfold bj;simp [execOp,ho,resolve,invoke,builtin,hs,hx,zx,mw];exact hK _ _ (h v' w' r1 (((Below.refl B w).alloc hB _).trans r2))
end bO
namespace aaS
open Go.RowKit bO
def uN (s:Int):List Value:=[gh .i64 s]
theorem aiI: ∀ y,(uN y).length=1:=fun _=>rfl
theorem aiJ: ∀ y, ∀ u∈uN y,u.oneCell'=true:=by
 intro y u hu;simp [uN] at hu;subst hu;rfl
theorem tE:kS lk 23 3 1 8 (.int .i64 0):=BH Tryz.underlying23 Jd rfl Z9
theorem aEI (n:Nat) (hn:n*8≤281474976710656) (W:World):
  Calls lk 361 #[.slice none 0 0, .int .i64 n] W fun e w'=> ∃ v,e= .returned v∧w'.ownsRow W.heap.size 3 1 v 0 []∧Room v n∧Below W.heap.size W w':=by
 obtain⟨h1,h2,h3,i,hi1,hi2,hi3,hi4⟩:=tE;have hnI:(n:Int)≤281474976710656:=Z8
 by_cases h0:n=0
 ·subst h0
  go_enter Tryz.func361,Tryz.ntmps361
  go_wp2_with (fail)
  go_ret
  exact⟨_,rfl,World.ownsRow_nil _ _ _ _, .inl ⟨rfl,rfl⟩,Below.refl _ _⟩
 ·have hr:=fun ty=>Lib.run_append_nil_zeros (P:=lk) W 23 3 ty 3 i (.int .i64 0) .i64 .i64 h1 Tryz.underlying3 hi1 hi2 n Z8 Z8 Z8 (by rw[hi4];omega)
  have hrow:=alQ (w:=W) (e:=3) (n:=n) h2 Zl;have hge:=grownCap_ge W n 0 3;have hle:=grownCap_le_maxLen W n 0 3 Zl;unfold maxLen at hle;have hb:Below W.heap.size W (W.drew.alloc (.cells (fq (gh .i64 0).cells n++fq (gh .i64 0).cells (grownCap W n 0 3-n)) 3)):=(Below.refl _ _).drew.alloc (df _) _;generalize W.drew.alloc (.cells (fq (gh .i64 0).cells n++fq (gh .i64 0).cells (grownCap W n 0 3-n)) 3)=W2 at hr hrow hb;generalize grownCap W n 0 3=C at hr hrow hge hle;have hCI:(n:Int)≤(C:Int):=Z8
  have hn0:(0:Int)<(n:Int):=Z8
  go_enter Tryz.func361,Tryz.ntmps361
  go_wp2_with (at_builtin;refine Lib.wpList_append_run _ rfl _ _ _ _ rfl _ _ rfl rfl _ _ (hr _) ?_)
  go_ret
  exact⟨_,rfl,hrow, .inr ⟨_,_,C,rfl,Z8⟩,hb⟩
theorem anB (g:Nat) (a b:Value) (xs ys:List Int) (W:World) (ha:bX W 1 a (xs.map uN)) (hb:bX W 1 b (ys.map uN)) (hg:g<W.heap.size) (ca:W.cell? ⟨g,0,none⟩=some a) (cb:W.cell? ⟨g,1,none⟩=some b)
  (hn:(xs.length+ys.length)*8≤281474976710656):
  Calls lk 358 #[.slice (some ⟨g,0,none⟩) 2 2] W fun e w'=> ∃ v,e= .returned v∧w'.ownsRow W.heap.size 3 1 v (xs.length+ys.length) (flat uN (xs++ys))∧Below W.heap.size W w':=by
 obtain⟨qa,capa,ba,oa,rfl,_,_⟩:=ha.view;obtain⟨qb,capb,bb,ob,rfl,_,_⟩:=hb.view;simp only[gp] at ha hb ca cb;have hxI:(xs.length:Int)+(ys.length:Int)≤281474976710656:=Z8
 go_enter Tryz.func358,Tryz.ntmps358
 go_wp2_with (fail)
 have hgrow:=fun n hn W=>aEI n hn W
 go_loopw [3,11] (fun z y wr=> ∃ k n:Nat,k≤2∧y= .int .i64 k∧z= .int .i64 n∧n≤xs.length+ys.length∧(k=0→n=0)∧(k=1→n=xs.length)∧(k=2→n=xs.length+ys.length)∧W=wr) (fun _ y _=>2-(intOf y).toNat)
 case atStart=>exact⟨0,0,Z8,rfl,rfl,Z8,Z8,Z8,Z8,rfl⟩
 case round=>
  obtain⟨k,n,hk,rfl,rfl,hn2,k0,k1,k2,rfl⟩:=hrel
  match k,hk with
  |0,_=>
   have hn0:n=0:=k0 rfl;subst hn0;clear k0 k1 k2;have hnn:(0:Int)≤(xs.length:Int):=Z8
   go_wp2_with (fail)
   exact⟨⟨1,xs.length,Z8,rfl,rfl,Z8,Z8,Z8,Z8,trivial⟩,by show 2-(((1:Int)).toNat)<2-((0:Int).toNat);decide⟩
  |1,_=>
   have hn0:n=xs.length:=k1 rfl;subst hn0;clear k0 k1 k2;have hnn:(0:Int)≤(xs.length:Int)+(ys.length:Int):=Z8
   go_wp2_with (fail)
   exact⟨⟨2,xs.length+ys.length,Z8,rfl,Ja,Z8,Z8,Z8,Z8,trivial⟩,by show 2-(((2:Int)).toNat)<2-((1:Int).toNat);decide⟩
  |2,_=>
   have hn0:n=xs.length+ys.length:=k2 rfl;subst hn0;clear k0 k1 k2
   go_wp2_with (fail)
   refine (hgrow (xs.length+ys.length) hn _).mono ?_;rintro e W1 ⟨v0,rfl,hown0,hr0,hb0⟩;clear hgrow;have hsz0:=hb0.size
   go_wp2_with (fail)
   go_loopw [6,27] (fun z y wr=> ∃ k:Nat,k≤2∧y= .int .i64 k∧Room z (xs.length+ys.length)∧(k=0→wr.ownsRow W.heap.size 3 1 z 0 [])∧(k=1→wr.ownsRow W.heap.size 3 1 z xs.length (flat uN xs))∧(k=2→wr.ownsRow W.heap.size 3 1 z (xs.length+ys.length) (flat uN (xs++ys)))∧Below W.heap.size W wr) (fun _ y _=>2-(intOf y).toNat)
   case atStart=>exact⟨0,Z8,rfl,hr0,fun _=>hown0,Z8,Z8,hb0⟩
   case round=>
    clear hown0 hb0 hsz0 hr0;obtain⟨k,hk,rfl,hroom,k0,k1,k2,hbl⟩:=hrel;have hsz:=hbl.size;have ca':=(hbl.cell (p:=⟨g,0,none⟩) hg).trans ca;have cb':=(hbl.cell (p:=⟨g,1,none⟩) hg).trans cb;have ha':=ha.below (df _) hbl;have hb':=hb.below (df _) hbl
    match k,hk with
    |0,_=>
     have hown:=k0 rfl;clear k0 k1 k2
     go_wp2_with (at_builtin;refine aTD tE rfl (.tmp 31) (.tmp 32) rfl uN aiI aiJ _ _ 0 (xs.length+ys.length) [] xs rfl rfl hown hroom ?c1 ha' hbl hsz ?_)
     case c1=>omega
     intro v' w2 hown2 hroom2 hb2 _;clear hown ha' hb' ca' cb' hbl hsz
     go_wp2_with (fail)
     exact⟨⟨1,Z8,rfl,hroom2,Z8,fun _=>hown2,Z8,hb2⟩,by show 2-(((1:Int)).toNat)<2-((0:Int).toNat);decide⟩
    |1,_=>
     have hown:=k1 rfl;clear k0 k1 k2
     go_wp2_with (at_builtin;refine aTD tE rfl (.tmp 31) (.tmp 32) rfl uN aiI aiJ _ _ xs.length (xs.length+ys.length) (flat uN xs) ys rfl rfl hown hroom ?c1 hb' hbl hsz ?_)
     case c1=>omega
     intro v' w2 hown2 hroom2 hb2 _;rw[show flat uN xs++flat uN ys=flat uN (xs++ys) from by simp [flat]] at hown2;clear hown ha' hb' ca' cb' hbl hsz
     go_wp2_with (fail)
     exact⟨⟨2,Z8,rfl,hroom2,Z8,Z8,fun _=>hown2,hb2⟩,by show 2-(((2:Int)).toNat)<2-((1:Int).toNat);decide⟩
    |2,_=>
     have hown:=k2 rfl;clear k0 k1 k2 ca' cb' ha' hb'
     go_wp2_with (fail)
     go_ret
     exact⟨_,rfl,hown,hbl⟩
end aaS
namespace ints
open Go.RowKit bO sl
theorem awD (q : Option Addr) (E : TypeId) (a b : Value) (xs ys : List Int) (hn : (xs.length + ys.length) * 8 ≤ 281474976710656) : Ct lk 358 [.slice q 2 2] [own (.slice q 2 2) E 1 2 [a, b], sl 1 a (xs.map fI), sl 1 b (ys.map fI)] fun v H' => ∃ q' c', v = .slice q' (xs ++ ys).length c' ∧ H' = [own (.slice q' (xs ++ ys).length c') 3 1 (xs ++ ys).length (flat fI (xs ++ ys))] := ⟨fun Fr w hw => by
 have h0:w.ownsRow 0 E 1 (.slice q 2 2) 2 [a,b]:=hw.1 (own (.slice q 2 2) E 1 2 [a,b]) Ja;have ha:bX w 1 a (xs.map fI):=hw.1 (sl 1 a (xs.map fI)) Ja;have hb:bX w 1 b (ys.map fI):=hw.1 (sl 1 b (ys.map fI)) Ja;obtain⟨g,c,e1,c1⟩:=EC h0 (i:=0) (j:=0) (u:=a) rfl;obtain⟨g2,c2,e2,c3⟩:=EC h0 (i:=1) (j:=0) (u:=b) rfl;cases e1;cases e2;have hg:g<w.heap.size:=by
  obtain⟨_,_,_,_,h3,_⟩:=yS h0 (k:=g) rfl;exact acC h3
 refine (aaS.anB g a b xs ys w ha hb hg c1 c3 hn).mono ?_;rintro e w' ⟨v,rfl,zy,zx⟩;rw[←ae] at zy;obtain⟨q',c',rfl⟩:=qQ zy;refine⟨_,_,rfl,⟨q',c',rfl,rfl⟩, ?_⟩;refine aG.new (hw.sub (List.sublist_append_right _ _)) ⟨zx.os,zx.tape,zx.output,zx.size,fun b zw _=>zx.block b zw⟩ ?_ fun k hk=> ?_
 ·exact⟨zy.1,zy.2.imp id fun⟨g,cap,cur,e,hB,r⟩=>⟨g,cap,cur,e,fe _,r⟩⟩
 ·obtain ⟨_, _, _, h4, _⟩ := yS zy hk;exact h4⟩
end ints
namespace pm
abbrev eU:=Int×List Nat
def iH:List eU→List eU
 |a::b::l=>(a.1+b.1,a.2++b.2)::iH l
 |_=>[]
def mg (x:eU) (a:List eU) (r:List eU→List eU):List eU→List eU
 |[]=>x::a
 |y::b=>if x.1≤y.1 then x::r (y::b) else y::mg x a r b
def merged:List eU→List eU→List eU
 |[],b=>b
 |x::a,b=>mg x a (merged a) b
def lists (s:List eU):Nat→List eU
 |0=>s
 |k+1=>merged s (iH (lists s k))
def rS (l:List eU):Prop:=l.Pairwise fun a b=>a.1≤b.1
def qI:List eU→Int
 |[]=>0
 |c::l=>c.1+qI l
def dB (l:List eU):List Nat:=l.flatMap (·.2)
theorem vY (a:List eU):merged a []=a:=by cases a<;>rfl
theorem zH {x y:eU} {a b:List eU} (h:x.1≤y.1):merged (x::a) (y::b)=x::merged a (y::b):=Jg h
theorem zJ {x y:eU} {a b:List eU} (h: ¬ x.1≤y.1):merged (x::a) (y::b)=y::merged (x::a) b:=Jf h
theorem CJ {P:List eU→List eU→Prop} (h1: ∀ b,P [] b) (h2: ∀ x a,P (x::a) []) (h3: ∀ x a y b,x.1≤y.1→P a (y::b)→P (x::a) (y::b)) (h4: ∀ x a y b, ¬ x.1≤y.1→P (x::a) b→P (x::a) (y::b)): ∀ a b,P a b:=by
 intro a;induction a with
 |nil=>exact h1
 |cons x a iha=>
  intro b;induction b with
  |nil=>exact h2 x a
  |cons y b ihb=>
   by_cases h:x.1≤y.1
   ·exact h3 x a y b h (iha _)
   ·exact h4 x a y b h ihb
theorem lK: ∀ a b,(merged a b).Perm (a++b):=by
 refine CJ (fun b=>by rw[merged];exact ja _) (fun x a=>by rw[vY,ke]) (fun x a y b h ih=> ?_) (fun x a y b h ih=> ?_)
 ·rw[zH h];exact ih.cons x
 ·rw[zJ h];exact (ih.cons y).trans abo.symm
theorem CO (a b:List eU):(merged a b).length=a.length+b.length:=by rw[(lK a b).length_eq,ae]
theorem XH: ∀ a b,rS a→rS b→rS (merged a b):=by
 refine CJ (fun b _ hb=>by rw[merged];exact hb) (fun x a ha _=>by rw[vY];exact ha) (fun x a y b h ih ha hb=> ?_) (fun x a y b h ih ha hb=> ?_)
 ·rw[zH h];have zy:=an.1 ha;have zx:=an.1 hb;refine an.2 ⟨fun z hz=> ?_,ih zy.2 hb⟩;rcases ei.1 ((lK _ _).mem_iff.1 hz) with hz|hz
  ·exact zy.1 z hz
  ·rcases al.1 hz with rfl|hz
   ·exact h
   ·exact Int.le_trans h (zx.1 z hz)
 ·rw[zJ h];have zy:=an.1 ha;have zx:=an.1 hb;refine an.2 ⟨fun z hz=> ?_,ih ha zx.2⟩;rcases ei.1 ((lK _ _).mem_iff.1 hz) with hz|hz
  ·rcases al.1 hz with rfl|hz
   ·omega
   ·have:=zy.1 z hz;omega
  ·exact zx.1 z hz
theorem aiK: ∀ a b m,m≤a.length+b.length→ ∃ x y,x+y=m∧x≤a.length∧y≤b.length∧((merged a b).take m).Perm (a.take x++b.take y):=by
 refine CJ (fun b m hm=>⟨0,m,Z8,fe _,by simpa using hm,by rw[merged];simp⟩) (fun x a m hm=>⟨m,0,Z8,by simpa using hm,fe _,by rw[vY];simp⟩) (fun x a y b h ih m hm=> ?_) (fun x a y b h ih m hm=> ?_)
 ·rw[zH h];cases m with
  |zero=>exact⟨0,0,rfl,fe _,fe _,Ja⟩
  |succ m=>
   obtain⟨i,j,e,h1,h2,p⟩:=ih m (by simp only[dv] at hm ⊢;omega);exact⟨i+1,j,Z8,by simp only[dv];omega,h2,by simpa using p.cons x⟩
 ·rw[zJ h];cases m with
  |zero=>exact⟨0,0,rfl,fe _,fe _,Ja⟩
  |succ m=>
   obtain⟨i,j,e,h1,h2,p⟩:=ih m (by simp only[dv] at hm ⊢;omega);refine⟨i,j+1,Z8,h1,by simp only[dv];omega, ?_⟩;simp only[aas];exact (p.cons y).trans abo.symm
theorem nC {P:List eU→Prop} (h0:P []) (h1: ∀ a,P [a]) (h2: ∀ a b l,P l→P (a::b::l)): ∀ l,P l
 |[]=>h0
 |[a]=>h1 a
 |a::b::l=>h2 a b l (nC h0 h1 h2 l)
theorem zK: ∀ l,(iH l).length=l.length/2:=by
 refine nC rfl (fun a=>by simp [iH]) fun a b l ih=> ?_
 rw[iH,dv,ih,dv,dv];omega
theorem awE: ∀ l,rS l→ ∀ c:Int,(∀ x∈l,c≤x.1)→ ∀ y∈iH l,c+c≤y.1:=by
 refine nC (fun _ c _ y hy=>by cases hy) (fun a _ c _ y hy=>by cases hy) fun a b l ih hs c hc y hy=> ?_
 rw[iH] at hy;rcases al.1 hy with rfl|hy
 ·have h1:=hc a bu;have h2:=hc b (a8 _ bu);dsimp only;omega
 ·exact ih ((an.1 (an.1 hs).2).2) c (fun x hx=>hc x (a8 _ (a8 _ hx))) y hy
theorem adJ: ∀ l,rS l→rS (iH l):=by
 refine nC (fun _=>ft) (fun _ _=>ft) fun a b l ih hs=> ?_
 have h1:=an.1 hs;have h2:=an.1 h1.2;rw[iH];refine an.2 ⟨fun y hy=> ?_,ih h2.2⟩;have h3:=awE l h2.2 b.1 h2.1 y hy;have h4:=h1.1 b bu;dsimp only;omega
theorem sS (a b:List eU):qI (a++b)=qI a+qI b:=by
 induction a with
 |nil=>simp [qI]
 |cons x a ih=>simp only[dw,qI,ih];omega
theorem aEJ {a b:List eU} (p:a.Perm b):qI a=qI b:=by
 induction p with
 |nil=>rfl
 |cons x _ ih=>simp only[qI,ih]
 |swap x y l=>simp only[qI];omega
 |trans _ _ h1 h2=>rw[h1,h2]
theorem TG: ∀ l y,2*y≤l.length→qI ((iH l).take y)=qI (l.take (2*y))∧dB ((iH l).take y)=dB (l.take (2*y)):=by
 refine nC (fun y h=> ?_) (fun a y h=> ?_) fun a b l ih y h=> ?_
 ·simp [iH]
 ·have:y=0:=by simp only[dv,gr] at h;omega
  subst this;exact⟨rfl,rfl⟩
 ·cases y with
  |zero=>exact⟨rfl,rfl⟩
  |succ y=>
   obtain⟨h1,h2⟩:=ih y (by simp only[dv] at h;omega);rw[iH,show 2*(y+1)=2*y+1+1 by omega];simp only[aas,qI,h1,dB,abw] at h2 ⊢;rw[h2];refine⟨Z8,by rw[fu]⟩
theorem anC {l:List eU} (h: ∀ c∈l,0≤c.1):0≤qI l:=by
 induction l with
 |nil=>exact jy _
 |cons x l ih=>
  have h1:=h x bu;have h2:=ih fun c hc=>h c (a8 _ hc)
  simp only[qI];omega
theorem AY {l:List eU} (h: ∀ c∈l,0≤c.1) {i j:Nat} (zy:i≤j):qI (l.take i)≤qI (l.take j):=by
 have e:l.take j=l.take i++(l.take j).drop i:=by
  have:=(gl i (l.take j)).symm;rwa [aco,j9 zy] at this
 rw[e,sS];have:=anC (l:=(l.take j).drop i) fun c hc=>h c (ll (List.mem_of_mem_drop hc))
 omega
theorem aiL: ∀ (l:List eU),rS l→ ∀ s r:List eU,(s++r).Perm l→qI (l.take s.length)≤qI s:=by
 intro l;induction l with
 |nil=>
  intro _ s r p;have:s=[]:=by
   have:=p.length_eq;rw[ae,gr] at this;exact bp Z8
  subst this;exact jy _
 |cons x l ih=>
  intro hs s r p;have zy:=an.1 hs;cases s with
  |nil=>exact jy _
  |cons y s=>
   have hx:x∈y::s++r:=p.mem_iff.2 bu;rcases ei.1 hx with hx|hx
   ·obtain⟨s1,s2,e⟩:=abv hx;have ps:(y::s).Perm (x::(s1++s2)):=by rw[e];exact abo
    have p2:(s1++s2++r).Perm l:=by
     have:=(ps.append_right r).symm.trans p;exact (acs x).1 (by simpa using this)
    have:=ih zy.2 _ _ p2;rw[aEJ ps,ps.length_eq];simp only[dv,aas,qI];omega
   ·obtain⟨r1,r2,e⟩:=abv hx;have p2:(s++(y::(r1++r2))).Perm l:=by
     have h1:(y::s++r).Perm (x::(s++(y::(r1++r2)))):=by
      rw[e];have a1:(s++(r1++x::r2)).Perm (x::(s++(r1++r2))):=by
       have:= @abo _ x (s++r1) r2;simpa using this
      have a2:(s++(y::(r1++r2))).Perm (y::(s++(r1++r2))):=abo;exact ((a1.cons y).trans (List.Perm.swap x y _)).trans (a2.symm.cons x)
     exact (acs x).1 (h1.symm.trans p)
    have hy:y∈l:=p2.mem_iff.1 Ja;have h3:=zy.1 y hy;have:=ih zy.2 _ _ p2;simp only[dv,aas,qI];omega
section
variable {s:List eU}
theorem GH (hs:rS s): ∀ k,rS (lists s k)
 |0=>hs
 |k+1=>XH _ _ hs (adJ _ (GH hs k))
theorem adK: ∀ l:List eU,(∀ c∈l,0≤c.1)→ ∀ c∈iH l,0≤c.1:=by
 refine nC (fun _ c hc=>by cases hc) (fun _ _ c hc=>by cases hc) fun a b l ih h c hc=> ?_
 rw[iH] at hc;rcases al.1 hc with rfl|hc
 ·have h1:=h a bu;have h2:=h b (a8 _ bu);dsimp only;omega
 ·exact ih (fun c hc=>h c (a8 _ (a8 _ hc))) c hc
theorem vZ (hs: ∀ c∈s,0≤c.1): ∀ k, ∀ c∈lists s k,0≤c.1
 |0=>hs
 |k+1=>fun c hc=>by
  rcases ei.1 ((lK _ _).mem_iff.1 hc) with hc|hc
  ·exact hs c hc
  ·exact adK _ (vZ hs k) c hc
theorem KM (k:Nat):(lists s (k+1)).length=s.length+(lists s k).length/2:=by rw[lists,CO,zK]
theorem TH: ∀ k,2*s.length≤(lists s k).length+(s.length+(2^k-1))/2^k
 |0=>by simp [lists];omega
 |k+1=>by
  have ih:=TH k;rw[KM];have h0:0<2^k:=aaf k;have e:(s.length+(2^(k+1)-1))/2^(k+1)=((s.length+(2^k-1))/2^k+1)/2:=by
   rw[n8, ←aaj];congr 1;have:s.length+(2^k*2-1)=s.length+(2^k-1)+2^k:=Z8
   rw[this,Nat.add_div_right _ h0]
  rw[e];omega
theorem GI {L:Nat} (hL:s.length≤2^(L+1)):2*s.length-2≤(lists s L).length:=by
 have h:=TH (s:=s) L;have h0:0<2^L:=aaf L;have:(s.length+(2^L-1))/2^L≤2:=by
  have h3:s.length+(2^L-1)<3*2^L:=by rw[n8] at hL;omega
  have:=Nat.div_lt_of_lt_mul (m:=s.length+(2^L-1)) (n:=2^L) (k:=3) Z8;omega
 omega
def adL (s:List eU) (rC:Nat→eU→Bool) (t:Nat):Nat:=(s.filter (rC t)).length
def wide (s:List eU) (rC:Nat→eU→Bool):Nat→Nat
 |0=>adL s rC 0
 |k+1=>adL s rC (k+1)+wide s rC k/2
def TI (s:List eU) (rC:Nat→eU→Bool):Nat→Int
 |0=>qI (s.filter (rC 0))
 |k+1=>qI (s.filter (rC (k+1)))+TI s rC k
theorem NC {α:Type} (p:α→Bool): ∀ l:List α,(l.filter p++l.filter fun x=> !p x).Perm l:=by
 intro l;induction l with
 |nil=>exact ja _
 |cons x l ih=>
  by_cases h:p x=true
  ·simp [h];exact ih
  ·have h':p x=false:=by simpa using h
   simp [h'];exact abo.trans (ih.cons x)
theorem low (hs:rS s) (h0: ∀ c∈s,0≤c.1) (rC:Nat→eU→Bool): ∀ k,wide s rC k≤(lists s k).length∧qI ((lists s k).take (wide s rC k))≤TI s rC k
 |0=>⟨abu _ _,aiL s hs _ _ (NC (rC 0) s)⟩
 |k+1=>by
  obtain⟨h1,h2⟩:=low hs h0 rC k;have hl:=abu (rC (k+1)) s;have hh:wide s rC k/2≤(iH (lists s k)).length:=by rw[zK];omega
  have hp:((s.filter (rC (k+1))++(iH (lists s k)).take (wide s rC k/2))++(s.filter (fun x=> !rC (k+1) x)++(iH (lists s k)).drop (wide s rC k/2))).Perm (lists s (k+1)):=by
   refine acn ?_ (lK s (iH (lists s k))).symm;have a1:=(NC (rC (k+1)) s).append (List.Perm.of_eq (gl (wide s rC k/2) (iH (lists s k))));refine acn ?_ a1;simp only[fu];refine acd _ ?_;simp only[←fu];exact List.perm_append_comm.append_right _
  have h3:=aiL _ (GH hs (k+1)) _ _ hp;have hlen:(s.filter (rC (k+1))++(iH (lists s k)).take (wide s rC k/2)).length=wide s rC (k+1):=by
   rw[ae,ar,j9 hh];rfl
  rw[hlen,sS,(TG _ _ Z8).1] at h3;have h4:=AY (vZ h0 k) (show 2*(wide s rC k/2)≤wide s rC k by omega);refine⟨?_, ?_⟩
  ·rw[KM];show adL s rC (k+1)+wide s rC k/2≤_;have:adL s rC (k+1)≤s.length:=hl;omega
  ·show _≤qI (s.filter (rC (k+1)))+TI s rC k;omega
def ext (s:List eU) (rC:Nat→eU→Bool):Nat→Nat
 |0=>adL s rC 0
 |k+1=>adL s rC (k+1)*2^(k+1)+ext s rC k
theorem aiM (rC:Nat→eU→Bool): ∀ k,wide s rC k=ext s rC k/2^k
 |0=>by simp [wide,ext]
 |k+1=>by
  rw[wide,ext,aiM rC k,Nat.add_comm (adL s rC (k+1)*_),Nat.add_mul_div_right _ _ (aaf _),n8, ←aaj];omega
end
def eY (f:Nat→Nat):List Nat→Nat
 |[]=>0
 |i::l=>f i+eY f l
def iP (f:Nat→Int):List Nat→Int
 |[]=>0
 |i::l=>f i+iP f l
theorem xV (f g:Nat→Nat): ∀ l,eY (fun i=>f i+g i) l=eY f l+eY g l
 |[]=>rfl
 |i::l=>by simp only[eY,xV f g l];omega
theorem arG {f g:Nat→Nat}: ∀ {l:List Nat},(∀ i∈l,f i≤g i)→eY f l≤eY g l
 |[],_=>df _
 |i::l,h=>by
  have h1:=h i bu;have h2:=arG (l:=l) fun j hj=>h j (a8 _ hj)
  simp only[eY];omega
theorem oN {f g:Nat→Nat}: ∀ {l:List Nat},(∀ i∈l,f i=g i)→eY f l=eY g l
 |[],_=>rfl
 |i::l,h=>by
  have h1:=h i bu;have h2:=oN (l:=l) fun j hj=>h j (a8 _ hj)
  simp only[eY];omega
theorem rT {f g:Nat→Int}: ∀ {l:List Nat},(∀ i∈l,f i=g i)→iP f l=iP g l
 |[],_=>rfl
 |i::l,h=>by
  have h1:=h i bu;have h2:=rT (l:=l) fun j hj=>h j (a8 _ hj)
  simp only[iP];omega
theorem TJ (f g:Nat→Int): ∀ l,iP (fun i=>f i+g i) l=iP f l+iP g l
 |[]=>rfl
 |i::l=>by simp only[iP,TJ f g l];omega
theorem oO (c:Nat): ∀ l,eY (fun _=>c) l=c*l.length
 |[]=>rfl
 |i::l=>by simp only[eY,oO c l,dv,Nat.mul_succ];omega
theorem aiN (f:Nat→Nat) (c:Nat): ∀ l,eY f l*c=eY (fun i=>f i*c) l
 |[]=>acx c
 |i::l=>by simp only[eY,ff,aiN f c l]
theorem aiO (f:Nat→Nat) (a b:List Nat):eY f (a++b)=eY f a+eY f b:=by
 induction a with
 |nil=>simp [eY]
 |cons i a ih=>simp only[dw,eY,ih];omega
theorem aiP (f:Nat→Int) (a b:List Nat):iP f (a++b)=iP f a+iP f b:=by
 induction a with
 |nil=>simp [iP]
 |cons i a ih=>simp only[dw,iP,ih];omega
theorem aaT: ∀ l,iP (fun _=>0) l=0
 |[]=>rfl
 |i::l=>by simp only[iP,aaT l];rfl
theorem TM {f:Nat→Int} {l:List Nat} (h: ∀ i∈l,f i=0):iP f l=0:=by rw[rT h,aaT]
theorem aaU (f:Nat→Int) {a b:List Nat} (p:a.Perm b):iP f a=iP f b:=by
 induction p with
 |nil=>rfl
 |cons x _ ih=>simp only[iP,ih]
 |swap x y l=>simp only[iP];omega
 |trans _ _ h1 h2=>rw[h1,h2]
theorem KN (f:Nat→Nat) {a b:List Nat} (p:a.Perm b):eY f a=eY f b:=by
 induction p with
 |nil=>rfl
 |cons x _ ih=>simp only[eY,ih]
 |swap x y l=>simp only[eY];omega
 |trans _ _ h1 h2=>rw[h1,h2]
theorem aEK (f:Nat→Nat) (g:Nat→Nat) (l:List Nat):eY f (l.map g)=eY (fun i=>f (g i)) l:=by
 induction l with
 |nil=>rfl
 |cons i l ih=>simp only[gd,eY,ih]
theorem anD (w:Nat→Int) {idx:List Nat} (hn:idx.Nodup): ∀ S:List Nat,(∀ i∈S,i∈idx)→iP w S=iP (fun i=>w i*(abr i S:Int)) idx:=by
 have one: ∀ (x:Nat) (c:Int) (l:List Nat),l.Nodup→x∈l→iP (fun i=>if i=x then c else 0) l=c:=by
  intro x c l;induction l with
  |nil=>intro _ h;cases h
  |cons y l ih=>
   intro hn h;have zy:=List.nodup_cons.1 hn;by_cases hy:y=x
   ·subst hy;simp only[iP,Jg];rw[TM fun i hi=>Jf fun e:i=y=>zy.1 (by rw[←e];exact hi)];omega
   ·rcases al.1 h with h|h
    ·exact absurd h.symm hy
    ·simp only[iP,Jf hy,ih zy.2 h];omega
 intro S;induction S with
 |nil=>intro _;exact (TM fun i _=>Ja).symm
 |cons x S ih=>
  intro h;rw[iP,ih fun i hi=>h i (a8 _ hi)];have e:iP (fun i=>w i*(abr i (x::S):Int)) idx=iP (fun i=>w i*(abr i S:Int)+if i=x then w x else 0) idx:=rT fun i _=>by
   rw[List.count_cons];by_cases hx:i=x
   ·subst hx;simp [acy]
   ·have: ¬ x=i:=fun e=>hx e.symm
    simp [hx,this]
  rw[e,TJ,one x (w x) idx hn (h x bu)];omega
def single (w:Nat→Int) (idx:List Nat):List eU:=idx.map fun i=>(w i,[i])
def XI (L:Nat) (l:Nat→Nat) (t:Nat) (c:eU):Bool:=decide (L-t≤l (c.2.headD 0))
def con (L x:Nat):Nat→Nat
 |0=>if L≤x then 1 else 0
 |k+1=>(if L-(k+1)≤x then 2^(k+1) else 0)+con L x k
theorem arH {L x:Nat} (hx:x≤L): ∀ k,(L-x≤k→con L x k+2^(L-x)=2^(k+1))∧(k<L-x→con L x k=0)
 |0=>by
  constructor
  ·intro h;have:x=L:=Z8
   subst this;simp [con]
  ·intro h;rw[con,Jf Z8]
 |k+1=>by
  obtain⟨h1,h2⟩:=arH hx k;constructor
  ·intro h;rw[con,Jg Z8];by_cases h3:L-x≤k
   ·have:=h1 h3;rw[n8 2 (k+1)];omega
   ·have e:L-x=k+1:=Z8
    rw[h2 Z8,e,n8 2 (k+1)];omega
  ·intro h;rw[con,Jf Z8,h2 Z8]
theorem TO (w:Nat→Int) (L:Nat) (l:Nat→Nat) (t:Nat): ∀ idx,adL (single w idx) (XI L l) t=eY (fun i=>if L-t≤l i then 1 else 0) idx:=by
 intro idx;induction idx with
 |nil=>rfl
 |cons i idx ih=>
  unfold adL single at ih ⊢;simp only[gd,bw,eY];have:XI L l t (w i,[i])=decide (L-t≤l i):=rfl;rw[this];by_cases h:L-t≤l i
  ·rw[decide_eq_true h,Jg rfl,Jg h,dv,ih];omega
  ·rw[decide_eq_false h,Jf Z9,Jf h,ih];omega
theorem TP (w:Nat→Int) (L:Nat) (l:Nat→Nat) (idx:List Nat): ∀ k,ext (single w idx) (XI L l) k=eY (fun i=>con L (l i) k) idx
 |0=>by rw[ext,TO];rfl
 |k+1=>by
  rw[ext,TO,TP w L l idx k];simp only[con];rw[xV];rw[aiN,oN (g:=fun i=>if L-(k+1)≤l i then 2^(k+1) else 0)];intro i _;split<;>simp
def num (L x:Nat):Nat→Nat
 |0=>if L≤x then 1 else 0
 |k+1=>(if L-(k+1)≤x then 1 else 0)+num L x k
theorem arI {L x:Nat} (hx:x≤L): ∀ k,k<L→(L-x≤k→num L x k+(L-x)=k+1)∧(k<L-x→num L x k=0)
 |0,hk=>by
  constructor
  ·intro h;have:x=L:=Z8
   subst this;simp [num]
  ·intro h;rw[num,Jf Z8]
 |k+1,hk=>by
  obtain⟨h1,h2⟩:=arI hx k Z8;constructor
  ·intro h;rw[num,Jg Z8];by_cases h3:L-x≤k
   ·have:=h1 h3;omega
   ·rw[h2 Z8];omega
  ·intro h;rw[num,Jf Z8,h2 Z8]
theorem TQ (w:Nat→Int) (L:Nat) (l:Nat→Nat) (t:Nat): ∀ idx,qI ((single w idx).filter (XI L l t))=iP (fun i=>w i*((if L-t≤l i then 1 else 0:Nat):Int)) idx:=by
 intro idx;induction idx with
 |nil=>rfl
 |cons i idx ih=>
  unfold single at ih ⊢;simp only[gd,bw,iP];have:XI L l t (w i,[i])=decide (L-t≤l i):=rfl;rw[this];by_cases h:L-t≤l i
  ·rw[decide_eq_true h,Jg rfl,Jg h,qI,ih];simp
  ·rw[decide_eq_false h,Jf Z9,Jf h,ih];simp
theorem ND (w:Nat→Int) (L:Nat) (l:Nat→Nat) (idx:List Nat): ∀ k,TI (single w idx) (XI L l) k=iP (fun i=>w i*(num L (l i) k:Int)) idx
 |0=>by rw[TI,TQ];rfl
 |k+1=>by
  rw[TI,TQ,ND w L l idx k, ←TJ];refine rT fun i _=> ?_
  rw[num,Int.natCast_add,acy]
theorem rU (w:Nat→Int) (idx:List Nat):(single w idx).length=idx.length:=by simp [single]
theorem TR {w:Nat→Int} {idx:List Nat} (h: ∀ i∈idx,0≤w i): ∀ c∈single w idx,0≤c.1:=fun c hc=>by
 obtain⟨i,hi,rfl⟩:=fa.1 hc;exact h i hi
theorem aEL {w:Nat→Int} {idx:List Nat} {L:Nat} (hs:rS (single w idx)) (h0: ∀ i∈idx,0≤w i) (l:Nat→Nat) (hl: ∀ i∈idx,1≤l i∧l i≤L+1) (hk:eY (fun i=>2^(L+1-l i)) idx≤2^(L+1)):qI ((lists (single w idx) L).take (2*idx.length-2))≤iP (fun i=>w i*(l i:Int)) idx:=by
 obtain⟨h1,h2⟩:=low hs (TR h0) (XI (L+1) l) L;have hx:ext (single w idx) (XI (L+1) l) L+eY (fun i=>2^(L+1-l i)) idx=2^(L+1)*idx.length:=by
  rw[TP, ←xV, ←oO (2^(L+1)) idx];exact oN fun i hi=>((arH (hl i hi).2 L).1 (by have:=(hl i hi).1;omega))
 have hc:TI (single w idx) (XI (L+1) l) L=iP (fun i=>w i*(l i:Int)) idx:=by
  rw[ND];refine rT fun i hi=> ?_
  have:=(arI (hl i hi).2 L Z8).1 (by have:=(hl i hi).1;omega);have h3:=hl i hi;rw[show num (L+1) (l i) L=l i by omega]
 have hw:2*idx.length-2≤wide (single w idx) (XI (L+1) l) L:=by
  rw[aiM];refine (Nat.le_div_iff_mul_le (aaf L)).2 ?_;rw[n8] at hx hk;have e:(2*idx.length-2)*2^L=2^L*2*idx.length-2^L*2:=by
   rw[acz,ij (2*idx.length), ←aae,ij 2 (2^L)]
  rw[e];omega
 have h3:=AY (vZ (TR h0) L) hw;rw[hc] at h2;omega
def exts:List Nat→Nat
 |[]=>0
 |x::a=>x*2^a.length+exts a
def lay (idx:List Nat):List Nat→List Nat
 |[]=>[]
 |x::a=>idx.take x++lay idx a
theorem anE {a b:List eU} (p:a.Perm b):(dB a).Perm (dB b):=p.flatMap_right _
theorem awF (a b:List eU):dB (a++b)=dB a++dB b:=by simp [dB]
theorem GJ (w:Nat→Int): ∀ idx,dB (single w idx)=idx:=by
 intro idx;induction idx with
 |nil=>rfl
 |cons i idx ih=>
  unfold dB single at ih ⊢;simp only[gd,abw,ih];rfl
theorem high (w:Nat→Int) (idx:List Nat): ∀ k m,m≤(lists (single w idx) k).length→ ∃ a:List Nat,a.length=k+1∧(∀ x∈a,x≤idx.length)∧exts a=m*2^k∧(dB ((lists (single w idx) k).take m)).Perm (lay idx a)
 |0,m,hm=>by
  rw[lists,rU] at hm;refine⟨[m],rfl,fun x hx=>by rw[eh.1 hx];exact hm,by simp [exts], ?_⟩;rw[lists,lay,lay,ke];have:(single w idx).take m=single w (idx.take m):=by simp [single,jj]
  rw[this,GJ]
 |k+1,m,hm=>by
  rw[lists,CO] at hm;obtain⟨x,y,e,h1,h2,p⟩:=aiK _ _ m hm;rw[zK] at h2;rw[rU] at h1;obtain⟨a,ha,hb,hc,q⟩:=high w idx k (2*y) Z8;refine⟨x::a,by rw[dv,ha],fun z hz=> ?_, ?_, ?_⟩
  ·rcases al.1 hz with rfl|hz
   ·exact h1
   ·exact hb z hz
  ·rw[exts,ha,hc, ←e,ff,n8,ij 2 y,aae y 2,ij 2 (2^k)]
  ·refine (anE p).trans ?_;rw[awF,lay];have:(single w idx).take x=single w (idx.take x):=by simp [single,jj]
   rw[this,GJ,(TG _ _ Z8).2];exact acd _ q
def depth (a:List Nat) (p:Nat):Nat:=(a.filter fun x=>decide (p<x)).length
def part (p:Nat):List Nat→Nat
 |[]=>0
 |x::a=>(if p<x then 2^a.length else 0)+part p a
theorem wA (x:Nat) (a:List Nat) (p:Nat):depth (x::a) p=(if p<x then 1 else 0)+depth a p:=by
 unfold depth;rw[bw];by_cases h:p<x
 ·rw[decide_eq_true h,Jg rfl,Jg h,dv];omega
 ·rw[decide_eq_false h,Jf Z9,Jf h];omega
theorem aiQ (a:List Nat) (p:Nat):depth a p≤a.length:=abu _ _
theorem anF (a:List Nat) {p q:Nat} (h:p≤q):depth a q≤depth a p:=by
 induction a with
 |nil=>exact df _
 |cons x a ih=>
  rw[wA,wA];by_cases h1:q<x
  ·rw[Jg h1,Jg Z8];omega
  ·rw[Jf h1];omega
theorem zL (p:Nat): ∀ a:List Nat,part p a+2^(a.length-depth a p)≤2^a.length
 |[]=>by simp [part,depth]
 |x::a=>by
  have ih:=zL p a;have hd:=aiQ a p;rw[part,wA,dv];by_cases h:p<x
  ·rw[Jg h,Jg h,show a.length+1-(1+depth a p)=a.length-depth a p by omega,n8];omega
  ·rw[Jf h,Jf h,dj,dj,show a.length+1-depth a p=a.length-depth a p+1 by omega,n8,n8];omega
theorem aiR (c x:Nat): ∀ n,x≤n→eY (fun p=>if p<x then c else 0) (mn n)=x*c
 |0,h=>by
  have:x=0:=Z8
  subst this;simp [eY]
 |n+1,h=>by
  rw[List.range_succ,aiO];by_cases hx:x=n+1
  ·have e:eY (fun p=>if p<x then c else 0) (mn n)=eY (fun _=>c) (mn n):=oN fun i hi=>Jg (by have:=ace.1 hi;omega)
   rw[e,oO,abx];simp only[eY];rw[Jg Z8,hx,Nat.succ_mul,ij];omega
  ·rw[aiR c x n Z8];simp only[eY];rw[Jf Z8];omega
theorem aaV {n:Nat}: ∀ a:List Nat,(∀ x∈a,x≤n)→eY (fun p=>part p a) (mn n)=exts a
 |[],_=>by
  have:eY (fun p=>part p []) (mn n)=eY (fun _=>0) (mn n):=rfl;rw[this,oO,acx];rfl
 |x::a,h=>by
  have e:eY (fun p=>part p (x::a)) (mn n)=eY (fun p=>(if p<x then 2^a.length else 0)+part p a) (mn n):=rfl;rw[e,xV,aiR _ _ _ (h x bu),aaV a fun y hy=>h y (a8 _ hy),exts]
theorem aiS {n:Nat} {a:List Nat} (h: ∀ x∈a,x≤n):eY (fun p=>2^(a.length-depth a p)) (mn n)+exts a≤2^a.length*n:=by
 rw[←aaV a h, ←xV, ←abx (n:=n), ←oO,abx];exact arG fun p _=>by have:=zL p a;omega
theorem anG {idx:List Nat} (hn:idx.Nodup) {p i:Nat} (hp:idx[p]? =some i) (x:Nat):abr i (idx.take x)=if p<x then 1 else 0:=by
 have hlt:=(aj.1 hp).1;by_cases h:p<x
 ·rw[Jg h];have hm:i∈idx.take x:=jg (by rw[au,Jg h];exact hp);have h1:=List.nodup_iff_count.1 (hn.sublist (List.take_sublist x idx)) i;have h2:=List.count_pos_iff.2 hm;omega
 ·rw[Jf h];refine acj.2 fun hm=> ?_
  obtain⟨q,hq⟩:=l9.1 hm;rw[au] at hq;split at hq
  ·rename_i hqx;obtain⟨b1,e1⟩:=aj.1 hq;obtain⟨b2,e2⟩:=aj.1 hp;have:=abz.1 (List.nodup_iff_pairwise_ne.1 hn) q p b1 b2 Z8;rw[e1,e2] at this;exact this rfl
  ·cases hq
theorem aaW {idx:List Nat} (hn:idx.Nodup) {p i:Nat} (hp:idx[p]? =some i): ∀ a,abr i (lay idx a)=depth a p
 |[]=>by simp [lay,depth]
 |x::a=>by rw[lay,List.count_append,anG hn hp,aaW hn hp a,wA]
theorem anH {idx:List Nat} (f:Nat→Nat) (g:Nat→Nat) (h: ∀ p i,idx[p]? =some i→f i=g p):eY f idx=eY g (mn idx.length):=by
 have e:idx=(mn idx.length).map fun p=>idx.getD p 0:=by
  apply ep;intro k;rw[dp];rcases ig k idx.length with hk|hk
  ·rw[abn hk,ej,my,ak hk];rfl
  ·rw[je hk,je (by simpa using hk)];rfl
 conv=>lhs;rw[e]
 rw[aEK];refine oN fun p hp=> ?_
 have zy:=ace.1 hp;exact h p _ (by rw[my,ak zy];rfl)
def CP (w:Nat→Int) (idx:List Nat) (L:Nat) (i:Nat):Nat:=abr i (dB ((lists (single w idx) L).take (2*idx.length-2)))
theorem NF {w:Nat→Int}: ∀ {l:List eU},(∀ c∈l,c.1=iP w c.2)→qI l=iP w (dB l)
 |[],_=>rfl
 |c::l,h=>by
  rw[qI,NF fun d hd=>h d (a8 _ hd),h c bu];unfold dB;rw[abw,aiP]
theorem aiT {w:Nat→Int}: ∀ l:List eU,(∀ c∈l,c.1=iP w c.2)→ ∀ c∈iH l,c.1=iP w c.2:=by
 refine nC (fun _ c hc=>by cases hc) (fun _ _ c hc=>by cases hc) fun a b l ih h c hc=> ?_
 rw[iH] at hc;rcases al.1 hc with rfl|hc
 ·dsimp only;rw[aiP, ←h a bu, ←h b (a8 _ bu)]
 ·exact ih (fun c hc=>h c (a8 _ (a8 _ hc))) c hc
theorem NG (w:Nat→Int) (idx:List Nat): ∀ k, ∀ c∈lists (single w idx) k,c.1=iP w c.2
 |0=>fun c hc=>by
  obtain⟨i,_,rfl⟩:=fa.1 hc;simp [iP]
 |k+1=>fun c hc=>by
  rcases ei.1 ((lK _ _).mem_iff.1 hc) with hc|hc
  ·obtain⟨i,_,rfl⟩:=fa.1 hc;simp [iP]
  ·exact aiT _ (NG w idx k) c hc
theorem adM {idx:List Nat}: ∀ a, ∀ i∈lay idx a,i∈idx
 |[],i,h=>by cases h
 |x::a,i,h=>by
  rcases ei.1 h with h|h
  ·exact ll h
  ·exact adM a i h
theorem aVQ {w:Nat→Int} {idx:List Nat} {L:Nat} (hs:rS (single w idx)) (hn:idx.Nodup) (h0: ∀ i∈idx,0≤w i) (h2:2≤idx.length) (hL:idx.length≤2^(L+1)):2*idx.length-2≤(lists (single w idx) L).length∧(∀ i∈idx,1≤CP w idx L i∧CP w idx L i≤L+1)∧(∀ i,i∉idx→CP w idx L i=0)∧eY (fun i=>2^(L+1-CP w idx L i)) idx≤2^(L+1)∧(∀ i∈idx, ∀ j∈idx,w i<w j→CP w idx L j≤CP w idx L i)∧ ∀ l:Nat→Nat,(∀ i∈idx,1≤l i∧l i≤L+1)→eY (fun i=>2^(L+1-l i)) idx≤2^(L+1)→iP (fun i=>w i*(CP w idx L i:Int)) idx≤iP (fun i=>w i*(l i:Int)) idx:=by
 have hm:=GI (s:=single w idx) (L:=L) (by rw[rU];exact hL);rw[rU] at hm;obtain⟨a,ha,hb,hc,p⟩:=high w idx L _ hm;have zy: ∀ i,CP w idx L i=abr i (lay idx a):=fun i=>p.count_eq i
 have zw: ∀ q i,idx[q]? =some i→CP w idx L i=depth a q:=fun q i hq=>by rw[zy,aaW hn hq]
 have hK:eY (fun i=>2^(L+1-CP w idx L i)) idx≤2^(L+1):=by
  rw[anH _ (fun q=>2^(L+1-depth a q)) fun q i hq=>by rw[zw q i hq]];have hk:=aiS hb;rw[ha,hc] at hk;have e:(2*idx.length-2)*2^L=2^(L+1)*idx.length-2^(L+1):=by
   rw[acz,ij (2*idx.length), ←aae,ij 2 (2^L),n8]
  rw[e] at hk;have:2^(L+1)≤2^(L+1)*idx.length:=Nat.le_mul_of_pos_right _ Z8;omega
 have hle: ∀ i,CP w idx L i≤L+1∨i∉idx:=fun i=>by
  by_cases hi:i∈idx
  ·obtain⟨q,hq⟩:=l9.1 hi;have:=aiQ a q;rw[zw q i hq];exact .inl Z8
  ·exact .inr hi
 refine⟨hm,fun i hi=>⟨?_,(hle i).resolve_right fun h=>h hi⟩,fun i hi=> ?_,hK,fun i hi j hj hw=> ?_,fun l hl hk=> ?_⟩
 ·rcases Nat.eq_zero_or_pos (CP w idx L i) with h|h
  ·exfalso;obtain⟨s1,s2,e⟩:=abv hi;have pe:idx.Perm (i::(s1++s2)):=by rw[e];exact abo
   rw[KN _ pe,eY,h,Nat.sub_zero] at hK;have hl:=pe.length_eq;rw[dv] at hl;cases zx:s1++s2 with
   |nil=>rw[zx] at hl;simp at hl;omega
   |cons y t=>
    rw[zx,eY] at hK;have:=aaf (L+1-CP w idx L y);omega
  ·exact h
 ·rw[zy];exact acj.2 fun h=>hi (adM a i h)
 ·obtain⟨q,hq⟩:=l9.1 hi;obtain⟨r,hr⟩:=l9.1 hj;rw[zw q i hq,zw r j hr];refine anF a ?_;rcases ig r q with h|h
  ·exfalso;have kA:(single w idx)[q]? =some (w i,[i]):=by unfold single;rw[dp,hq];rfl
   have zv:(single w idx)[r]? =some (w j,[j]):=by unfold single;rw[dp,hr];rfl
   obtain⟨b1,e1⟩:=aj.1 kA;obtain⟨b2,e2⟩:=aj.1 zv;have:=abz.1 hs r q b2 b1 h;rw[e1,e2] at this;dsimp only at this;omega
  ·exact h
 ·have h1:=aEL hs h0 l hl hk;rw[NF fun c hc=>NG w idx L c (ll hc),anD w hn] at h1
  ·exact h1
  ·intro i hi;exact adM a i (p.mem_iff.1 hi)
end pm
namespace sl
open Go.RowKit bO
def iter (b:Nat) (l:List UInt8) (pos:Nat):Ent where
 jF:=true
 lD j:=j=b
 holds w:=w.heap[b]? =some (.stringIter (str l) pos)
 lt h hk:=by
  subst hk;exact (dn.1 h).1
 keep h _ _ _ _ hb:=by rw[hb b rfl];exact h
def jM (l:List UInt8) (pos:Nat):Nat:=(Utf8.decode (str l) pos).1
def pQ (l:List UInt8) (pos:Nat):Nat:=(Utf8.decode (str l) pos).2
section
variable {P:Program} {Q:fW} {n:Nat} {F:eE} {H R:List Ent} {o:Oper} {x y z:Operand} {v u z':Value} {T S:TypeId}
theorem abE {l:List UInt8} [ht:EB P T] (ho:o.op= .range T x) (hx:ev F x=some (.string (str l))):cN P n o F H fun u H'=> ∃ b,u=aH b 0∧H'=iter b l 0::H:=fun Q a w next ha hw hn=>by
 unfold bj;simp only[execOp,ho,ha.eval hx,run_range_string w T (str l) ht.h,ab,ah,aa,bf];refine hn _ _ _ ⟨w.heap.size,rfl,rfl⟩ (aG.new hw (fZ w _) ?_ fun j hj=> ?_)
 ·exact World.iter_heap w (str l) 0
 ·have:j=w.heap.size:=hj;omega
theorem UI {b pos:Nat} {l:List UInt8} (ho:o.op= .next x true) (hx:ev F x=some (aH b 0)) (p:bQ (iter b l pos) H R) (h:pos<l.length):cN P n o F H fun u H'=>u= .tuple #[.bool true, .int .i64 (pos:Int), .int .i32 (jM l pos:Int)]∧H'=iter b l (pos+pQ l pos)::R:=fun Q a w next ha hw hn=>by
 have zx:=hw.perm p.perm;have hb:w.heap[b]? =some (.stringIter (str l) pos):=zx.head;have hs:pos<(str l).size:=by rw[cZ];exact h
 have hlt:=(dn.1 hb).1;have hr:(Instr.next (aH b 0) true o.type).run P w= .ok (.tuple #[.bool true, .int .i64 (pos:Int), .int .i32 (jM l pos:Int)]) { w with heap:=w.heap.setIfInBounds b (.stringIter (str l) (pos+pQ l pos)) }:=by
  simp only[Instr.next,aH,getObj,setObj,ab,km,hb,mw,hs,if_true];simp [goInt,jM,pQ]
 unfold bj;simp only[execOp,ho,ha.eval hx,hr,ab,ah,aa,bf];refine hn _ _ _ ⟨rfl,rfl⟩ (aG.qO zx rfl ⟨rfl,rfl,rfl,Ja,fun j _ zw=> ?_⟩ ?_ fun j hj=> .inl hj)
 ·have zy: ¬ b=j:=fun e=>zw (show j=b from e.symm)
  simp [zy]
 ·show (w.heap.setIfInBounds b _)[b]? =_;simp [hlt]
theorem GU {b pos:Nat} {l:List UInt8} (ho:o.op= .next x true) (hx:ev F x=some (aH b 0)) (p:bQ (iter b l pos) H R) (h:l.length≤pos):cN P n o F H fun u H'=>u= .tuple #[.bool false]∧H'=H:=fun Q a w next ha hw hn=>by
 have hb:w.heap[b]? =some (.stringIter (str l) pos):=hw.1 _ p.mem;have hs: ¬ pos<(str l).size:=by rw[cZ];omega
 have hr:(Instr.next (aH b 0) true o.type).run P w= .ok (.tuple #[.bool false]) w:=by
  simp [Instr.next,aH,getObj,km,hb,hs]
 unfold bj;simp only[execOp,ho,ha.eval hx,hr,ab,ah,aa,bf];exact hn _ _ _ ⟨rfl,rfl⟩ hw
theorem awT {k:IntKind} {i:Int} [hs:Knd P S] [hd:EB P T] (ho:o.op= .convert S T x) (hx:ev F x=some (.int k i)):Qt P n o F H (.string (Utf8.encode i)):=fun a w ha _=>by
 have h1:=run_convert_int_string (P:=P) w S T k i hs.h hd.h;simp only[execOp,ho,ha.eval hx,h1,ab,aa,ah]
theorem YN {c:Code} (h:dG P (Exit.noGoto Q) n c F H):dG P Q n (.scope c) F H:=fun a w ha hw=>wp_scope_straight (h a w ha hw)
theorem YM (h:dL Q .normal n F H):dL (Exit.noGoto Q) .normal n F H:=h
theorem AQ (h:dL Q .ret n F H):dL (Exit.noGoto Q) .ret n F H:=h
theorem xE {id:Nat} (h:dL Q (.exit id) n F H):dL (Exit.noGoto Q) (.exit id) n F H:=h
theorem YO {l:Nat} (h:dL Q .normal n F H):dG P Q n (.label l) F H:=fun a w ha hw=>wp_label (h a w ha hw)
end
theorem awU (s:ByteArray) (i:Nat) (h:i<s.size):1≤(Utf8.decode s i).2∧i+(Utf8.decode s i).2≤s.size∧((Utf8.decode s i).1<128→(Utf8.decode s i).2=1∧(s.get! (i+0)).toNat=(Utf8.decode s i).1)∧(128≤(Utf8.decode s i).1→ ∀ k,k<(Utf8.decode s i).2→128≤(s.get! (i+k)).toNat)∧((Utf8.decode s i).1<128∨(Utf8.decode s i).1=65533∨Utf8.valid (Utf8.decode s i).1=true):=by
 simp only[Utf8.decode,Utf8.runeError];split
 ·exact⟨df _,by simp;omega,fun _=>⟨rfl,rfl⟩,fun h=>by dsimp only at h;omega, .inl Jc⟩
 ·have zw:128≤(s.get! (i+0)).toNat:=Z8
  have one:1≤(65533,1).2∧i+(65533,1).2≤s.size∧((65533,1).1<128→(65533,1).2=1∧(s.get! (i+0)).toNat=(65533,1).1)∧(128≤(65533,1).1→ ∀ k,k<(65533,1).2→128≤(s.get! (i+k)).toNat)∧((65533,1).1<128∨(65533,1).1=65533∨Utf8.valid (((65533,1).1:Nat):Int)=true):=
   ⟨Z9, by simp; omega, fun h => absurd h Z9, fun _ k hk => by
    have:k=0:=by dsimp only at hk;omega
    subst this;exact zw, .inr (.inl rfl)⟩
  split
  ·rename_i hc;simp only[ir,beq_iff_eq,decide_eq_true_eq] at hc;split
   ·refine⟨Ja,by simp;omega,fun h=>by dsimp only at h;omega,fun _ k hk=> ?_, .inr (.inr ?_)⟩
    ·dsimp only at hk;rcases ig k 1 with zy|zy
     ·have:k=0:=Z8
      subst this;omega
     ·have:k=1:=Z8
      subst this;omega
    ·unfold Utf8.valid;simp;omega
   ·exact one
  ·split
   ·rename_i hc;simp only[ir,beq_iff_eq,decide_eq_true_eq] at hc;split
    ·rename_i hv;simp only[ir,decide_eq_true_eq] at hv;refine⟨Ja,by simp;omega,fun h=>by dsimp only at h;omega,fun _ k hk=> ?_, .inr (.inr ?_)⟩
     ·dsimp only at hk;rcases ig k 1 with zy|zy
      ·have:k=0:=Z8
       subst this;omega
      ·rcases ig k 2 with zx|zx
       ·have:k=1:=Z8
        subst this;omega
       ·have:k=2:=Z8
        subst this;omega
     ·exact hv.2
    ·exact one
   ·split
    ·rename_i hc;simp only[ir,beq_iff_eq,decide_eq_true_eq] at hc;split
     ·rename_i hv;simp only[ir,decide_eq_true_eq] at hv;refine⟨Ja,by simp;omega,fun h=>by dsimp only at h;omega,fun _ k hk=> ?_, .inr (.inr ?_)⟩
      ·dsimp only at hk;rcases ig k 1 with zy|zy
       ·have:k=0:=Z8
        subst this;omega
       ·rcases ig k 2 with zx|zx
        ·have:k=1:=Z8
         subst this;omega
        ·rcases ig k 3 with zv|zv
         ·have:k=2:=Z8
          subst this;omega
         ·have:k=3:=Z8
          subst this;omega
      ·exact hv.2
     ·exact one
    ·exact one
theorem str_get! (l:List UInt8) (i:Nat):(str l).get! i=l.getD i 0:=by
 show (ade l.toArray).get! i=_;unfold adb;simp [my];rfl
theorem anW {l:List UInt8} {i:Nat} (h:i<l.length):1≤pQ l i∧i+pQ l i≤l.length∧(jM l i<128→pQ l i=1∧(l.getD i 0).toNat=jM l i)∧(128≤jM l i→ ∀ k,k<pQ l i→128≤(l.getD (i+k) 0).toNat)∧(jM l i<128∨jM l i=65533∨Utf8.valid (jM l i)=true):=by
 have hd:=awU (str l) i (by rw[cZ];exact h);rw[cZ] at hd;simp only[str_get!,fl] at hd;exact hd
theorem aMF (l:List UInt8) (i:Nat):jM l i≤2147483647:=decode_le (str l) i
end sl
namespace file
open Go.RowKit bO sl
def DC (k:Nat) (s:List UInt8):List UInt8:=if s=[] then [] else if k≤s.length then s.take k else s++du (k-s.length) 0
def fD (m:Nat) (ps:List (List UInt8)):List (List UInt8):=(mn (aQ m)).map fun i=>DC (cX m i) (ps.getD i [])
def nS (m:Nat) (ps:List (List UInt8)) (k:Nat):List (List UInt8):=(mn (aQ m)).map fun i=>if i<k then DC (cX m i) (ps.getD i []) else []
theorem ajQ (m:Nat) (ps:List (List UInt8)):nS m ps 0=du (aQ m) []:=by
 unfold nS;simp [List.map_const']
theorem UL (m:Nat) (ps:List (List UInt8)) (k:Nat):(nS m ps k).length=aQ m:=by simp [nS]
theorem rW (m:Nat) (ps:List (List UInt8)):(fD m ps).length=aQ m:=by simp [fD]
theorem UM {m:Nat} {ps:List (List UInt8)} {k:Nat} {s:List UInt8} (hs:ps[k]? =some s):(nS m ps k).set k (DC (cX m k) s)=nS m ps (k+1):=by
 apply ep;intro i;rw[ic,UL];unfold nS;simp only[dp];rcases ig i (aQ m) with hi|hi
 ·rw[abn hi];by_cases h:k=i
  ·subst h;rw[Jg rfl,Jg hi];simp [ada,hs]
  ·rw[Jf h];simp only[ej,aq];by_cases h2:i<k
   ·rw[Jg h2,Jg Z8]
   ·rw[Jf h2,Jf Z8]
 ·rw[je (by simpa using hi)];split
  ·rw[Jf Z8];rfl
  ·rfl
theorem abI {m:Nat} {ps:List (List UInt8)} {k:Nat} (hk:k<aQ m):(nS m ps k)[k]? =some []:=by
 unfold nS;simp [hk]
theorem ajR {m:Nat} {ps:List (List UInt8)} {k:Nat} (hk:k<aQ m) (hs:ps[k]? =some []):nS m ps (k+1)=nS m ps k:=by
 rw[←UM hs];have:DC (cX m k) []=[]:=rfl;rw[this];have h:=abI (ps:=ps) hk;obtain⟨hl,hx⟩:=aj.1 h
 conv=>lhs;rw[←hx]
 exact List.set_getElem_self hl
theorem aoC {m:Nat} {ps:List (List UInt8)}:nS m ps (min ps.length (aQ m))=fD m ps:=by
 unfold nS fD;refine List.map_congr_left fun i hi=> ?_
 rw[ace] at hi;by_cases h:i<min ps.length (aQ m)
 ·rw[Jg h]
 ·rw[Jf h,my,je Z8];rfl
attribute [local irreducible] box own sl bL aH bJ Qt cN cM dG dL eQ
theorem KU (q:Option Addr) (c:Nat) (n:Int) (m:Nat) (ps:List (List UInt8)) (hm:m≤4096) (hp:ps.length≤1000000000000000) (hs: ∀ s∈ps,s.length≤1000000000000000):
  Ct lk 217 [.agg #[.int .i64 n, .slice q ps.length c], .int .i64 (m:Int)] [sl 1 (.slice q ps.length c) (ps.map fT)] fun v H'=> ∃ qa,v= .agg #[.int .i64 (m:Int), .slice qa (aQ m) (aQ m)]∧H'=[own (.slice qa (aQ m) (aQ m)) 9 1 (aQ m) (flat fT (fD m ps))]:=by
 have P0:=aaJ m Z8;have hpm:aQ m≤9:=by unfold aQ;omega
 obtain⟨t,ht⟩: ∃ t,t=min ps.length (aQ m):=⟨_,rfl⟩;have htI:min (ps.length:Int) (aQ m:Int)=(t:Int):=Z8
 rw[←aoC, ←ht];(refine Ye Tryz.func217 Tryz.ntmps217 ?_;intro Fr);(repeat' (first|refine Y3 ?_|(refine Wb ?_;intro b)|refine Wc (P0 ..) ?_|fail));(refine aL wt rfl (dH (fT) (([]:List UInt8)) (c:=aQ m) rfl rfl rfl Zf Zf rfl rfl Z8 Zi) ?_;rintro _ _ ⟨qa,rfl,rfl⟩);rw[←ajQ m ps];(refine bF ?_;intro b);(refine aC (σ:=Nat) (fun k=>k≤t) (fun k=>[(21, .int .i64 (k:Int))]) (fun k=>[own (.slice qa (aQ m) (aQ m)) 9 1 (aQ m) (flat fT (nS m ps k))]) _ (fun k=>t-k) (0) Ja Ze Zb (fun k hk=> ?_);refine Da ?_);rcases ig k t with hlt|hge
 ·obtain⟨s,zx⟩: ∃ s,ps[k]? =some s:=⟨_,ak Z8⟩;have hsl:=hs s (jg zx);have zw:k<aQ m:=Z8
  have L0:=FW m k Z8 (by have:=xR zw;omega);have hl5:=jX m k;have hx:=abI (ps:=ps) zw;have hln:=UL m ps k;have zy:=UM (m:=m) zx;by_cases e1:s=[]
  ·have e2:(s==[])=true:=by rw[e1];rfl
   have e3:=ajR zw (by rw[zx,e1]);clear zy hx;(repeat' (first|refine Y1 ?_|refine Wc (L0 ..) ?_|fail));rw[←e3];refine Ee (k+1) ?_ ?_
   ·exact hlt
   ·show t-(k+1)<t-k;omega
  ·have e2:(s==[])=false:=by simpa using e1
   by_cases e3:cX m k≤s.length
   ·have e4:(cX m k:Int)≤(s.length:Int):=Z8
    rw[show DC (cX m k) s=s.take (cX m k) from by unfold DC;rw[Jf e1,Jg e3]] at zy;clear e1;generalize cX m k=z at*;refine kB ?_;(refine aD (Hq:=[_,_]) [3,4] [] rfl Jd Za ?_);(repeat' (first|refine Y2 ?_|refine Wc (L0 ..) ?_|fail));(refine aD (Hq:=[_]) [1] [] rfl Jd Za ?_);refine jV ?_;(refine aB 7 ?_;refine Ob (l:=by exact (aI (f:=fT) (q':=s.take z) rfl rfl rfl rfl Zk rfl Z8 Zg Jc rfl rfl Jb)) (k:= ?_);rintro _ _ ⟨rfl,rfl⟩;refine Te ?_;(try refine Da ?_));rw[zy];refine sO ?_;refine Ee (k+1) ?_ ?_
    ·exact hlt
    ·show t-(k+1)<t-k;omega
   ·have e4: ¬ (cX m k:Int)≤(s.length:Int):=Z8
    have R0:=SI (cX m k-s.length) Z8;have e5:((cX m k-s.length:Nat):Int)=(cX m k:Int)-(s.length:Int):=Z8
    rw[show DC (cX m k) s=s++du (cX m k-s.length) 0 from by unfold DC;rw[Jf e1,Jf e3]] at zy;rw[e5] at R0;obtain⟨rz,zv⟩: ∃ rz:List UInt8,rz=du (cX m k-s.length) 0:=⟨_,rfl⟩;have hrl:rz.length=cX m k-s.length:=by rw[zv,abp]
    rw[←zv] at R0 zy;clear e1 zv;refine kB ?_;(refine aD (Hq:=[_,_]) [3,4] [] rfl Jd Za ?_);(repeat' (first|refine Y2 ?_|refine Wc (L0 ..) ?_|fail));(refine aD (Hq:=[_]) [1] [] rfl Jd Za ?_);(repeat' (first|refine Wk ?_|refine Wc (R0 ..) ?_|refine Wz ?_|fail));(refine aB 11 ?_;refine Ob (l:=by exact (aI (f:=fT) (q':=s++rz) rfl rfl rfl rfl Zk rfl Z8 Zg Jc rfl rfl Jb)) (k:= ?_);rintro _ _ ⟨rfl,rfl⟩;refine Te ?_;(try refine Da ?_));rw[zy];refine sO ?_;refine Ee (k+1) ?_ ?_
    ·exact hlt
    ·show t-(k+1)<t-k;omega
 ·have zu:k=t:=Z8
  subst zu;refine bM ?_;exact Ea (x:=⟨qa,rfl,rfl⟩)
end file
namespace file
open Go.RowKit bO sl
theorem aFS {k:Nat} {s:List UInt8} (h:DC k s≠[]):(DC k s).length=k:=by
 unfold DC at*;split at h
 ·exact absurd rfl h
 ·rename_i hs;rw[Jf hs];split
  ·rw[ar];omega
  ·rw[ae,abp];omega
theorem axF {m i:Nat} {ps:List (List UInt8)} {t:List UInt8} (h:(fD m ps)[i]? =some t):i<aQ m∧t=DC (cX m i) (ps.getD i []):=by
 have hl:=(aj.1 h).1;rw[rW] at hl;refine⟨hl, ?_⟩;unfold fD at h;rw[dp,abn hl] at h;exact (a7 h).symm
theorem DD {m:Nat} (ps:List (List UInt8)) (hm:m≤4096):gA m (fD m ps):=by
 refine⟨hm,rW m ps,fun i s hs zy=> ?_⟩;obtain⟨_,rfl⟩:=axF hs;exact aFS zy
theorem asI {n i:Nat} {ps:List (List UInt8)} (h:gA n ps) (hi:i<aQ n):ps.getD i []=[]∨(ps.getD i []).length=cX n i:=by
 have zy:i<ps.length:=by rw[h.2.1];exact hi
 rcases adf (ps.getD i []=[]) with e|e
 ·exact .inl e
 ·refine .inr (h.2.2 i _ ?_ e);rw[my,ak zy];rfl
theorem axG {m:Nat} {ps qs:List (List UInt8)} (hq:qs.length=aQ m) (h: ∀ i,i<aQ m→DC (cX m i) (ps.getD i [])=qs.getD i []):fD m ps=qs:=by
 apply ep;intro i;rcases ig i (aQ m) with hi|hi
 ·have h1:=h i hi;unfold fD;rw[dp,abn hi,ej,h1,my,ak Z8];rfl
 ·rw[je (by rw[rW];exact hi),je Z8]
theorem axH {k:Nat} {s:List UInt8} (h:s=[]∨s.length=k):DC k s=s:=by
 unfold DC;split
 ·exact ‹s=[]›.symm
 ·rcases h with h|h
  ·contradiction
  ·rw[Jg Z8, ←h,mz]
theorem UO {n:Nat} {ps:List (List UInt8)} (h:gA n ps):fD n ps=ps:=
 axG h.2.1 fun i hi=>axH (asI h hi)
attribute [local irreducible] box own sl bL aH bJ Qt cN cM dG dL eQ
open Classical in
noncomputable def aFT (n:Int) (ps:List (List UInt8)) (m:Int):Int:=if kR n ps≠0 then kR n ps else if m<0 then 1 else if 4096<m then 2 else 0
theorem aMO (q:Option Addr) (c:Nat) (n:Int) (ps:List (List UInt8)) (m:Int) (hp:ps.length≤9223372036854775807) (hs: ∀ s∈ps,s.length≤9223372036854775807) (hb:aFT n ps m≠0):
  Ct lk 151 [.agg #[.int .i64 n, .slice q ps.length c], .int .i64 m] [sl 1 (.slice q ps.length c) (ps.map fT)] fun v H'=>v= .tuple #[.agg #[.int .i64 0, .slice none 0 0], .int .i64 (aFT n ps m)]∧H'=[]:=by
 have C0:=bP q c n ps hp hs;unfold aFT at*;by_cases h0:kR n ps=0
 ·rw[Jf ZU] at*;rw[h0] at C0;by_cases h1:m<0
  ·rw[Jg h1];(refine Ye Tryz.func151 Tryz.ntmps151 ?_;intro Fr);(repeat' (first|refine Y1 ?_|(refine Wb ?_;intro b)|(refine Wq ?_;intro q)|refine Wc (C0 ..) ?_|(refine Ws ?_ ?_<;>intro h)|refine Wz ?_|fail));exact Ea (x:=⟨rfl,rfl⟩)
  ·rw[Jf h1] at*;by_cases h2:4096<m
   ·rw[Jg h2];(refine Ye Tryz.func151 Tryz.ntmps151 ?_;intro Fr);(repeat' (first|refine Y1 ?_|(refine Wb ?_;intro b)|(refine Wq ?_;intro q)|refine Wc (C0 ..) ?_|(refine Ws ?_ ?_<;>intro h)|refine Wz ?_|fail));exact Ea (x:=⟨rfl,rfl⟩)
   ·rw[Jf h2] at hb;exact absurd rfl hb
 ·rw[Jg h0];generalize kR n ps=e at*;(refine Ye Tryz.func151 Tryz.ntmps151 ?_;intro Fr);(repeat' (first|refine Y1 ?_|(refine Wb ?_;intro b)|(refine Wq ?_;intro q)|refine Wc (C0 ..) ?_|(refine Ws ?_ ?_<;>intro h)|refine Wz ?_|fail));exact Ea (x:=⟨rfl,rfl⟩)
theorem xQ (q:Option Addr) (c:Nat) (n:Nat) (ps:List (List UInt8)) (m:Nat) (hg:gA n ps) (hm:m≤4096):
  Ct lk 151 [.agg #[.int .i64 (n:Int), .slice q ps.length c], .int .i64 (m:Int)] [sl 1 (.slice q ps.length c) (ps.map fT)] fun v H'=> ∃ qa,v= .tuple #[.agg #[.int .i64 (m:Int), .slice qa (aQ m) (aQ m)], .int .i64 0]∧H'=[own (.slice qa (aQ m) (aQ m)) 9 1 (aQ m) (flat fT (fD m ps))]:=by
 have hp9:ps.length≤8:=by have h1:=hg.1;have h2:=hg.2.1;unfold aQ at h2;omega
 have hs: ∀ s∈ps,s.length≤1000000000000000:=by
  intro s hs;obtain⟨i,hi⟩:=abl hs;by_cases zy:s=[]
  ·rw[zy,gr];omega
  ·have h1:=hg.2.2 i s hi zy;have h2:=jX n i;omega
 have C0:=bP q c n ps Z8 fun s h=>gm (hs s h) Z8
 rw[jQ hg] at C0;have S0:=KU q c n m ps hm Z8 hs;(refine Ye Tryz.func151 Tryz.ntmps151 ?_;intro Fr);(repeat' (first|refine Y1 ?_|(refine Wb ?_;intro b)|(refine Wq ?_;intro q)|refine Wc (C0 ..) ?_|(refine Ws ?_ ?_<;>intro h)|refine Wz ?_|fail));(refine Ca (S0) ?_;rintro _ _ ⟨_,⟨qa,rfl,rfl⟩,rfl⟩;refine Da ?_);refine aF ?_;exact Ea (x:=⟨qa,rfl,rfl⟩)
end file
namespace file
open Go.RowKit bO sl
def hit (at' len i:Nat):Prop:=max at' (512*i)<min (at'+len) (512*i+512)
instance (a b c:Nat):Decidable (hit a b c):=by unfold hit;infer_instance
def ajS (at':Nat) (text:List UInt8) (s:List UInt8) (i j:Nat):UInt8:=if at'≤512*i+j∧512*i+j<at'+text.length then text.getD (512*i+j-at') 0 else s.getD j 0
def GX (N at':Nat) (text:List UInt8) (i:Nat) (s:List UInt8):List UInt8:=if hit at' text.length i then (mn (cX N i)).map (ajS at' text s i) else s
def jZ (N at':Nat) (text:List UInt8) (out:List (List UInt8)):List (List UInt8):=(mn out.length).map fun i=>GX N at' text i (out.getD i [])
theorem jC (N at':Nat) (text:List UInt8) (out:List (List UInt8)):(jZ N at' text out).length=out.length:=by simp [jZ]
theorem rX {N at':Nat} {text:List UInt8} {out:List (List UInt8)} {i:Nat} (h:i<out.length):(jZ N at' text out).getD i []=GX N at' text i (out.getD i []):=by
 unfold jZ;rw[my,dp,abn h];rfl
theorem abJ {a b:List (List UInt8)} (h:a.length=b.length) (h2: ∀ i,i<a.length→a.getD i []=b.getD i []):a=b:=by
 apply ep;intro i;rcases ig i a.length with hi|hi
 ·have:=h2 i hi;rw[my,my,ak hi,ak Z8] at this;rw[ak hi,ak Z8];exact congrArg some this
 ·rw[je hi,je Z8]
theorem UP (N at':Nat) (out:List (List UInt8)):jZ N at' [] out=out:=
 abJ (jC ..) fun i hi=>by
  rw[jC] at hi;rw[rX hi];unfold GX;rw[Jf (by unfold hit;simp only[gr];omega)]
theorem uS {a b:List UInt8} (h:a.length=b.length) (h2: ∀ j,j<a.length→a.getD j 0=b.getD j 0):a=b:=by
 apply ep;intro i;rcases ig i a.length with hi|hi
 ·have:=h2 i hi;rw[my,my,ak hi,ak Z8] at this;rw[ak hi,ak Z8];exact congrArg some this
 ·rw[je hi,je Z8]
theorem kM {n j:Nat} (f:Nat→UInt8) (h:j<n):((mn n).map f).getD j 0=f j:=by
 rw[my,dp,abn h];rfl
theorem wH {N at' i j:Nat} {text s:List UInt8} (h:j<cX N i) (hj:j<512):(GX N at' text i s).getD j 0=ajS at' text s i j:=by
 unfold GX;split
 ·exact kM _ h
 ·rename_i hh;unfold ajS;rw[Jf];intro ⟨h1,h2⟩;exact hh (by unfold hit;omega)
theorem uT {N at' i:Nat} {text s:List UInt8} (h:hit at' text.length i):(GX N at' text i s).length=cX N i:=by
 unfold GX;rw[Jg h];simp
def UQ (L k:Nat) (s t:List UInt8):List UInt8:=
 let b:=(du L 0).take 0++s++(du L 0).drop (0+s.length)
 b.take k++t++b.drop (k+t.length)
theorem GY (a b:List UInt8) (j:Nat):(a++b).getD j 0=if j<a.length then a.getD j 0 else b.getD (j-a.length) 0:=by
 simp only[my,dr];split<;>rfl
theorem getD_take (a:List UInt8) (k j:Nat):(a.take k).getD j 0=if j<k then a.getD j 0 else 0:=by
 simp only[my,au];split<;>rfl
theorem zS (a:List UInt8) (k j:Nat):(a.drop k).getD j 0=a.getD (k+j) 0:=by
 simp only[my,aw]
theorem ajT (L j:Nat):(du L (0:UInt8)).getD j 0=0:=by
 simp only[my,List.getElem?_replicate];split<;>rfl
theorem aFU {a:List UInt8} {j:Nat} (h:a.length≤j):a.getD j 0=0:=by
 rw[my,je h];rfl
theorem abK {L k:Nat} {s t:List UInt8} (hs:s.length≤L) (ht:k+t.length≤L):(UQ L k s t).length=L:=by
 simp only[UQ,ae,ar,bq,abp];omega
theorem aoD {L k j:Nat} {s t:List UInt8} (hs:s.length≤L) (ht:k+t.length≤L) (hj:j<L):(UQ L k s t).getD j 0=if k≤j∧j<k+t.length then t.getD (j-k) 0 else s.getD j 0:=by
 have hb: ∀ j,((du L (0:UInt8)).take 0++s++(du L 0).drop (0+s.length)).getD j 0=s.getD j 0:=by
  intro j;rw[acb,dz,GY];split
  ·rfl
  ·rw[zS,ajT,aFU Z8]
 have hl:((du L (0:UInt8)).take 0++s++(du L 0).drop (0+s.length)).length=L:=by
  simp only[ae,ar,bq,abp];omega
 unfold UQ;dsimp only;rw[GY,GY,getD_take,zS,hb,hb];simp only[ae,ar,hl];by_cases h1:j<k
 ·rw[Jg Z8,Jg Z8,Jg h1,Jf Z8]
 ·by_cases h2:j<k+t.length
  ·rw[Jg Z8,Jf Z8,Jg Z8,j9 Z8]
  ·rw[Jf Z8,Jf Z8];congr 1;omega
theorem aFV {out:List (List UInt8)} {i m:Nat} {b:List UInt8}:(out.set i b).getD m []=if i=m∧m<out.length then b else out.getD m []:=by
 simp only[my,ic];by_cases h:i=m
 ·subst h;by_cases h2:i<out.length
  ·rw[Jg rfl,Jg h2,Jg ⟨rfl,h2⟩];rfl
  ·rw[Jg rfl,Jf h2,Jf Z8,je Z8]
 ·rw[Jf h,Jf Z8]
theorem aoE {N at' d cnt i k:Nat} {text s:List UInt8} {out:List (List UInt8)} (hi:i<out.length) (hp:at'+d=512*i+k) (hk:k+cnt≤cX N i) (hc:0<cnt) (hd:d+cnt≤text.length) (hs:(jZ N at' (text.take d) out).getD i []=s) (zw:s.length≤cX N i):(jZ N at' (text.take d) out).set i (UQ (cX N i) k s ((text.drop d).take cnt))=jZ N at' (text.take (d+cnt)) out:=by
 have hl5:=jX N i;have zx:(text.take d).length=d:=by rw[ar];omega
 have zy:(text.take (d+cnt)).length=d+cnt:=by rw[ar];omega
 have zu:((text.drop d).take cnt).length=cnt:=by rw[ar,bq];omega
 refine abJ (by rw[n5,jC,jC]) fun m hm=> ?_
 rw[n5,jC] at hm;rw[aFV,jC,rX hm,rX hm];by_cases h:i=m
 ·subst h;rw[Jg ⟨rfl,hm⟩];have hh:hit at' (text.take (d+cnt)).length i:=by rw[zy];unfold hit;omega
  refine uS (by rw[abK zw Z8,uT hh]) fun j hj=> ?_
  rw[abK zw Z8] at hj;rw[aoD zw Z8 hj,wH hj Z8, ←hs,rX hm,wH hj Z8];unfold ajS;rw[zx,zy,zu];by_cases h1:k≤j∧j<k+cnt
  ·rw[Jg h1,Jg Z8,getD_take,zS,getD_take,Jg Z8,Jg Z8];congr 1;omega
  ·rw[Jf h1];by_cases h2:at'≤512*i+j∧512*i+j<at'+d
   ·rw[Jg h2,Jg Z8,getD_take,getD_take,Jg Z8,Jg Z8]
   ·rw[Jf h2,Jf Z8]
 ·rw[Jf Z8];by_cases hh:hit at' (text.take d).length m
  ·have zv:hit at' (text.take (d+cnt)).length m:=by
    rw[zx] at hh;rw[zy];unfold hit at*;omega
   refine uS (by rw[uT hh,uT zv]) fun j hj=> ?_
   rw[uT hh] at hj;have hl6:=jX N m;rw[wH hj Z8,wH hj Z8];unfold ajS;rw[zx,zy];by_cases h2:at'≤512*m+j∧512*m+j<at'+d
   ·rw[Jg h2,Jg Z8,getD_take,getD_take,Jg Z8,Jg Z8]
   ·rw[Jf h2,Jf Z8]
  ·have zv: ¬ hit at' (text.take (d+cnt)).length m:=by
    rw[zx] at hh;rw[zy];unfold hit at*;omega
   unfold GX;rw[Jf hh,Jf zv]
end file
namespace file
open Go.RowKit bO sl
theorem vS {N at':Nat} {text:List UInt8} {out:List (List UInt8)} (h:gA N out):gA N (jZ N at' text out):=by
 refine⟨h.1,by rw[jC];exact h.2.1,fun i s hs zy=> ?_⟩;have hi:i<out.length:=by
  have:=(aj.1 hs).1;rwa [jC] at this
 have h1:(jZ N at' text out).getD i []=s:=by rw[my,hs];rfl
 rw[rX hi] at h1;by_cases hh:hit at' text.length i
 ·rw[←h1,uT hh]
 ·unfold GX at h1;rw[Jf hh] at h1;rcases asI h (i:=i) (by rw[←h.2.1];exact hi) with e|e
  ·exact absurd (h1.symm.trans e) zy
  ·rw[←h1];exact e
theorem zT {N i:Nat} {out:List (List UInt8)} {s:List UInt8} (h:gA N out) (hs:out[i]? =some s):s.length≤cX N i:=by
 by_cases zy:s=[]
 ·rw[zy];exact fe _
 ·rw[h.2.2 i s hs zy];exact df _
attribute [local irreducible] box own sl bL aH bJ Qt cN cM dG dL eQ
theorem xN (q:Option Addr) (c:Nat) (n:Nat) (ps:List (List UInt8)) (at':Nat) (text:List UInt8) (hg:gA n ps) (zq:text≠[]) (hle:at'+text.length≤4096):
  Ct lk 150 [.agg #[.int .i64 (n:Int), .slice q ps.length c], .int .i64 (at':Int), .string (str text)] [sl 1 (.slice q ps.length c) (ps.map fT)] fun v H'=> ∃ qa,v= .tuple #[.agg #[.int .i64 ((max n (at'+text.length):Nat):Int), .slice qa (aQ (max n (at'+text.length))) (aQ (max n (at'+text.length)))], .int .i64 0]∧H'=[own (.slice qa (aQ (max n (at'+text.length))) (aQ (max n (at'+text.length)))) 9 1 (aQ (max n (at'+text.length))) (flat fT (jZ (max n (at'+text.length)) at' text (fD (max n (at'+text.length)) ps)))]:=by
 have hn:=hg.1;have hpl:=hg.2.1;have hs: ∀ s∈ps,s.length≤1000000000000000:=by
  intro s hs;obtain⟨i,hi⟩:=abl hs;have:=zT hg hi;have:=jX n i;omega
 have C0:=bP q c n ps ZB fun s h=>gm (hs s h) Z8
 rw[jQ hg] at C0;obtain⟨N,hN⟩: ∃ N,N=max n (at'+text.length):=⟨_,rfl⟩;rw[←hN];have zw:N≤4096:=Z8
 have zv:(N:Int)=max (n:Int) ((at':Int)+(text.length:Int)):=Z8
 have S0:=KU q c n N ps zw ZB hs;have zn:=DD ps zw;have zm:=rW N ps;generalize fD N ps=out at*;rw[zv] at S0;obtain⟨res,zy⟩: ∃ res,res=jZ N at' text out:=⟨_,rfl⟩;rw[←zy];have e0:(text==[])=false:=by simpa using zq
 (refine Ye Tryz.func150 Tryz.ntmps150 ?_;intro Fr);(repeat' (first|refine Y3 ?_|(refine Wb ?_;intro b)|refine Wc (C0 ..) ?_|fail));(refine Ca (S0) ?_;rintro _ _ ⟨_,⟨qa,rfl,rfl⟩,rfl⟩;refine Da ?_);rw[←zv];(refine bF ?_;intro b);rw[show flat fT out=flat fT (jZ N at' (text.take 0) out) from by rw[acb,UP]];(refine aC (σ:=Nat) (fun d=>d≤text.length) (fun d=>[(1, .int .i64 ((at'+d:Nat):Int)),(2, .string (str (text.drop d)))]) (fun d=>[own (.slice qa (aQ N) (aQ N)) 9 1 (aQ N) (flat fT (jZ N at' (text.take d) out))]) _ (fun d=>text.length-d) (0) Ja Ze Zb (fun d hd=> ?_);refine Da ?_);rcases ig d text.length with hlt|hge
 ·obtain⟨p,hp⟩: ∃ p,p=at'+d:=⟨_,rfl⟩;obtain⟨r,hr⟩: ∃ r,r=text.drop d:=⟨_,rfl⟩;have zl:r.length=text.length-d:=by rw[hr,bq]
  have e1:(r==[])=false:=by
   have:r≠[]:=fun h=>by rw[h,gr] at zl;omega
   simpa using this
  obtain⟨i,hi⟩: ∃ i,i=p/512:=⟨_,rfl⟩;obtain⟨k,hk⟩: ∃ k,k=p%512:=⟨_,rfl⟩;have zu:(p:Int)/512=(i:Int):=Z8
  have zk:(p:Int)%512=(k:Int):=Z8
  have zj:at'+d=512*i+k:=Z8
  obtain⟨cnt,hc⟩: ∃ cnt,cnt=min r.length (512-k):=⟨_,rfl⟩;have zh:min (r.length:Int) (512-(k:Int))=(cnt:Int):=Z8
  have hin:i<aQ N:=by unfold aQ;omega
  have hwl:(jZ N at' (text.take d) out).length=aQ N:=by rw[jC,zm]
  obtain⟨s,zt⟩: ∃ s,(jZ N at' (text.take d) out)[i]? =some s:=⟨_,ak Z8⟩;have zg:=zT (vS (at':=at') (text:=text.take d) zn) zt;have hll:cX N i=min 512 (N-512*i):=rfl;have hst:=aoE (N:=N) (at':=at') (d:=d) (cnt:=cnt) (i:=i) (k:=k) (text:=text) (s:=s) (out:=out) Z8 zj Z8 Z8 Z8 (by rw[my,zt];rfl) zg;have L0:=FW N i Z8 Z8;rw[←zu] at L0;rw[←hp, ←hr];rw[←hr] at hst;generalize jZ N at' (text.take d) out=cur at*;obtain⟨cur',zr⟩: ∃ x,x=jZ N at' (text.take (d+cnt)) out:=⟨_,rfl⟩;rw[←zr] at hst;generalize cX N i=lg at*;refine QT ?_;rw[zu,zk,zh];(refine aL wt rfl (dH (fY) ((0:UInt8)) (c:=lg) rfl rfl rfl Zf Zf rfl rfl Z8 Zi) ?_;rintro _ _ ⟨qb,rfl,rfl⟩);refine bM ?_;refine aL wt rfl (MQ (k:=0) (.inr ⟨rfl,rfl⟩) rfl rfl rfl aU Z8 Z8) ?_;rintro _ _ ⟨rfl,rfl⟩;generalize zf:(du lg (0:UInt8)).take 0++s++(du lg (0:UInt8)).drop (0+s.length)=b1;refine kB ?_;refine YL aU Z8 ?_;rintro g rfl hgc;(refine aD (Hq:=[]) [] [] rfl Jd Za ?_);refine jV ?_;have hcr:(r.take cnt).length=cnt:=by rw[ar];omega
  (refine aB 6 ?_;refine Oa (l:=by exact (MQ (k:=k) (.inl rfl) rfl rfl rfl aU Z8 Z8)) (k:= ?_);rintro _ _ ⟨rfl,rfl⟩;refine Te ?_;(try refine Da ?_));have zx:b1.take k++r.take cnt++b1.drop (k+(r.take cnt).length)=UQ lg k s (r.take cnt):=by rw[←zf];rfl
  rw[zx];generalize UQ lg k s (r.take cnt)=b2 at*;refine Yw6 ?_;(refine dC wt (aI (f:=fT) (q':=b2) rfl rfl rfl rfl Zk rfl Z8 Zg Jc rfl rfl Jb) ?_;rintro _ _ ⟨rfl,rfl⟩);rw[hst];refine Yw6 ?_;rw[show (p:Int)+(cnt:Int)=((at'+(d+cnt):Nat):Int) from by omega,show r.drop cnt=text.drop (d+cnt) from by rw[hr,List.drop_drop],zr];refine Ee (d+cnt) ?_ ?_
  ·show d+cnt≤text.length;omega
  ·show text.length-(d+cnt)<text.length-d;omega
 ·have ze:d=text.length:=Z8
  subst ze;rw[mz, ←zy];have e1:(text.drop text.length==[])=true:=by rw[List.drop_length];rfl
  refine bM ?_;exact Ea (x:=⟨qa,rfl,rfl⟩)
theorem axI (q:Option Addr) (c:Nat) (n:Nat) (ps:List (List UInt8)) (at':Int) (hg:gA n ps) (ha:0≤at'):
  Ct lk 150 [.agg #[.int .i64 (n:Int), .slice q ps.length c], .int .i64 at', .string (str [])] [sl 1 (.slice q ps.length c) (ps.map fT)] fun v H'=> ∃ qa,v= .tuple #[.agg #[.int .i64 (n:Int), .slice qa (aQ n) (aQ n)], .int .i64 0]∧H'=[own (.slice qa (aQ n) (aQ n)) 9 1 (aQ n) (flat fT ps)]:=by
 have hn:=hg.1;have hpl:=hg.2.1;have hs: ∀ s∈ps,s.length≤1000000000000000:=by
  intro s hs;obtain⟨i,hi⟩:=abl hs;have:=zT hg hi;have:=jX n i;omega
 have C0:=bP q c n ps ZB fun s h=>gm (hs s h) Z8
 rw[jQ hg] at C0;have S0:=KU q c n n ps hn ZB hs;rw[UO hg] at S0;have e0:(([]:List UInt8)==[])=true:=rfl;(refine Ye Tryz.func150 Tryz.ntmps150 ?_;intro Fr);(repeat' (first|refine Y3 ?_|(refine Wb ?_;intro b)|refine Wc (C0 ..) ?_|fail));(refine Ca (S0) ?_;rintro _ _ ⟨_,⟨qa,rfl,rfl⟩,rfl⟩;refine Da ?_);refine iC ?_;exact Ea (x:=⟨qa,rfl,rfl⟩)
open Classical in
noncomputable def bR (n:Int) (ps:List (List UInt8)) (at':Int) (text:List UInt8):Int:=if kR n ps≠0 then kR n ps else if at'<0 then 1 else if text=[] then 0 else if 4096<(text.length:Int) then 2 else if 4096-(text.length:Int)<at' then 2 else 0
theorem axJ (q:Option Addr) (c:Nat) (n:Int) (ps:List (List UInt8)) (at':Int) (text:List UInt8) (hp:ps.length≤9223372036854775807) (hs: ∀ s∈ps,s.length≤9223372036854775807) (ht:text.length≤1000000000000000) (hb:bR n ps at' text≠0):
  Ct lk 150 [.agg #[.int .i64 n, .slice q ps.length c], .int .i64 at', .string (str text)] [sl 1 (.slice q ps.length c) (ps.map fT)] fun v H'=>v= .tuple #[.agg #[.int .i64 0, .slice none 0 0], .int .i64 (bR n ps at' text)]∧H'=[]:=by
 have C0:=bP q c n ps hp hs;unfold bR at*;by_cases h0:kR n ps=0
 ·rw[Jf ZU] at*;rw[h0] at C0;by_cases h1:at'<0
  ·rw[Jg h1];(refine Ye Tryz.func150 Tryz.ntmps150 ?_;intro Fr);(repeat' (first|refine Y3 ?_|(refine Wb ?_;intro b)|refine Wc (C0 ..) ?_|fail));exact Ea (x:=⟨rfl,rfl⟩)
  ·rw[Jf h1] at*;by_cases h2:text=[]
   ·rw[Jg h2] at hb;exact absurd rfl hb
   ·rw[Jf h2] at*;have e0:(text==[])=false:=by simpa using h2
    by_cases h3:4096<(text.length:Int)
    ·rw[Jg h3];(refine Ye Tryz.func150 Tryz.ntmps150 ?_;intro Fr);(repeat' (first|refine Y3 ?_|(refine Wb ?_;intro b)|refine Wc (C0 ..) ?_|fail));exact Ea (x:=⟨rfl,rfl⟩)
    ·rw[Jf h3] at*;by_cases h4:4096-(text.length:Int)<at'
     ·rw[Jg h4];(refine Ye Tryz.func150 Tryz.ntmps150 ?_;intro Fr);(repeat' (first|refine Y3 ?_|(refine Wb ?_;intro b)|refine Wc (C0 ..) ?_|fail));exact Ea (x:=⟨rfl,rfl⟩)
     ·rw[Jf h4] at hb;exact absurd rfl hb
 ·rw[Jg h0];generalize kR n ps=e at*;(refine Ye Tryz.func150 Tryz.ntmps150 ?_;intro Fr);(repeat' (first|refine Y3 ?_|(refine Wb ?_;intro b)|refine Wc (C0 ..) ?_|fail));exact Ea (x:=⟨rfl,rfl⟩)
end file
namespace file
open Go.RowKit bO sl
def kX (n at':Nat) (text:List UInt8):Nat:=if text=[] then n else max n (at'+text.length)
def oG (n at':Nat) (text:List UInt8) (ps:List (List UInt8)):List (List UInt8):=jZ (kX n at' text) at' text (fD (kX n at' text) ps)
theorem axK (n at':Nat) (text:List UInt8) (ps:List (List UInt8)):(oG n at' text ps).length=aQ (kX n at' text):=by
 unfold oG;rw[jC,rW]
theorem axL (q:Option Addr) (c:Nat) (n:Nat) (ps:List (List UInt8)) (at':Nat) (text:List UInt8) (hg:gA n ps) (h:text=[]∨at'+text.length≤4096):Ct lk 150 [.agg #[.int .i64 (n:Int), .slice q ps.length c], .int .i64 (at':Int), .string (str text)] [sl 1 (.slice q ps.length c) (ps.map fT)] fun v H'=> ∃ qa,v= .tuple #[.agg #[.int .i64 ((kX n at' text:Nat):Int), .slice qa (aQ (kX n at' text)) (aQ (kX n at' text))], .int .i64 0]∧H'=[own (.slice qa (aQ (kX n at' text)) (aQ (kX n at' text))) 9 1 (aQ (kX n at' text)) (flat fT (oG n at' text ps))]:=by
 by_cases ht:text=[]
 ·subst ht;have h1:=axI q c n ps (at':Int) hg Z8;have e:kX n at' []=n:=by unfold kX;rw[Jg rfl]
  unfold oG;rw[e,UP,UO hg];exact h1
 ·have h1:=xN q c n ps at' text hg ht (h.resolve_left ht);have e:kX n at' text=max n (at'+text.length):=by unfold kX;rw[Jf ht]
  unfold oG;rw[e];exact h1
end file
namespace bld
open Go.RowKit Go.Shelf
theorem aFW:Go.Proofs.Lays.n240 lk Tryz.sU:={
 mixed:=Tryz.aY.mixed
 f240:=Tryz.aY.f240
 f276:=Tryz.aY.f276
 t0:=Tryz.aY.t0
 a0:=Tryz.aY.a0
 z0:=Tryz.aY.z0
 v0:=Tryz.aY.v0
 t4:=Tryz.aY.t4
 a4:=Tryz.aY.a4
 z4:=Tryz.aY.z4
 v4:=Tryz.aY.v4
 t9:=Tryz.aY.t9
 a9:=Tryz.aY.a9
 z9:=Tryz.aY.z9
 v9:=Tryz.aY.v9
 t20:=Tryz.aY.t20
 a20:=Tryz.aY.a20
 z20:=Tryz.aY.z20
 v20:=Tryz.aY.v20
 t70:=Tryz.aY.t70
 a70:=Tryz.aY.a70
 z70:=Tryz.aY.z70
 v70:=Tryz.aY.v70
 t72:=Tryz.aY.t72
 a72:=Tryz.aY.a72
 z72:=Tryz.aY.z72
 v72:=Tryz.aY.v72
 t164:=Tryz.aY.t164
 a164:=Tryz.aY.a164
 z164:=Tryz.aY.z164
 v164:=Tryz.aY.v164
}
theorem aRQ:Go.Proofs.Lays.n169 lk Tryz.sU:={
 mixed:=Tryz.aY.mixed
 f169:=Tryz.aY.f169
 t0:=Tryz.aY.t0
 a0:=Tryz.aY.a0
 z0:=Tryz.aY.z0
 v0:=Tryz.aY.v0
 t3:=Tryz.aY.t3
 a3:=Tryz.aY.a3
 z3:=Tryz.aY.z3
 v3:=Tryz.aY.v3
 t9:=Tryz.aY.t9
 a9:=Tryz.aY.a9
 z9:=Tryz.aY.z9
 v9:=Tryz.aY.v9
 t37:=Tryz.aY.t37
 a37:=Tryz.aY.a37
 z37:=Tryz.aY.z37
 v37:=Tryz.aY.v37
 t70:=Tryz.aY.t70
 a70:=Tryz.aY.a70
 z70:=Tryz.aY.z70
 v70:=Tryz.aY.v70
 t72:=Tryz.aY.t72
 a72:=Tryz.aY.a72
 z72:=Tryz.aY.z72
 v72:=Tryz.aY.v72
 t127:=Tryz.aY.t127
 a127:=Tryz.aY.a127
 z127:=Tryz.aY.z127
 v127:=Tryz.aY.v127
}
theorem string (B b:Nat) (l:List UInt8) (w:World) (h:Lib.IsBuilderF 313 5 B b (Lib.byteCells l) w) (h0:l≠[]):Calls lk 226 #[.pointer (some ⟨b,0,none⟩)] w fun e w'=>e= .returned (.string ⟨l.toArray⟩)∧(Lib.IsBuilderF 313 5 B b (Lib.byteCells l) w'∧Below B w w'):=Any.Builder_String_f aRQ Tryz.kU B b l w h h0
end bld
namespace uU
open Go.RowKit bO sl
instance:cG lk 333:=⟨Jd⟩
attribute [local irreducible] box own sl bL aH bJ Qt cN cM dG dL eQ
theorem axP (r:Int) (h0:0≤r) (h1:r≤2147483647) (hv:Utf8.valid r=true):Ct lk 333 [.int .i32 r] [] fun v H'=>v= .bool true∧H'=[]:=by
 unfold Utf8.valid at hv;simp at hv;by_cases h:r<55296
 ·clear hv;(refine Ye Tryz.func333 Tryz.ntmps333 ?_;intro Fr);refine bM ?_;exact Ea (x:=⟨rfl,rfl⟩)
 ·have h2:57343<r:=Z8
  have h3:r≤1114111:=Z8
  clear hv;(refine Ye Tryz.func333 Tryz.ntmps333 ?_;intro Fr);refine bM ?_;exact Ea (x:=⟨rfl,rfl⟩)
theorem KW (l:List UInt8) (c:Int):Ct lk 209 [.string (str l), .int .u8 c] [] fun v H'=>v= .int .i64 (Lib.indexByte l c.toNat.toUInt8)∧H'=[]:=
 bK fun w _=>(Tryz.strings_IndexByte (str l) c w).mono fun e w' ⟨h1,h2⟩=>⟨h1,by rw[h2];exact Below.refl _ _⟩
theorem aMQ (r:Int) (hv:Utf8.valid r=true) (h:128≤r): ∃ e:List UInt8,Utf8.encode r=str e∧2≤e.length∧e.length≤4∧ ∃ x:UInt8,e[e.length-1]? =some x∧128≤x.toNat:=by
 obtain⟨h1,h2,h3⟩:=encode_facts r hv h;have hs:(Utf8.encode r).size=(Utf8.encode r).data.toList.length:=Ja
 refine⟨(Utf8.encode r).data.toList,rfl,Z8,Z8,(Utf8.encode r)[(Utf8.encode r).size-1]'Z8, ?_,h3 Z8⟩;rw[←hs];simp [aba]
theorem axQ (r:Int) (h0:0≤r) (h1:r≤2147483647) (hr:r<128∨r=65533∨Utf8.valid r=true):
  Ct lk 295 [.string (str [47,0]), .int .i32 r] [] fun v H'=>v= .int .i64 (if r=47 then 0 else if r=0 then 1 else -1)∧H'=[]:=by
 by_cases hlt:r<128
 ·have hw:kz.wrap r=r:=YG Z8;have I0:=KW [47,0] r;have e:Lib.indexByte [47,0] r.toNat.toUInt8=if r=47 then 0 else if r=0 then 1 else -1:=by
   obtain⟨n,rfl⟩:=Int.eq_ofNat_of_zero_le h0;have hn:n<128:=Z8
   clear I0 hw hr h0 h1 hlt;revert n;decide +kernel
  rw[e] at I0;generalize (if r=47 then (0:Int) else if r=0 then 1 else -1)=res at*;clear e hr;(refine Ye Tryz.func295 Tryz.ntmps295 ?_;intro Fr);(repeat' (first|refine Y3 ?_|refine Wc (I0 ..) ?_|fail));exact Ea (x:=⟨rfl,rfl⟩)
 ·have e:(if r=47 then (0:Int) else if r=0 then 1 else -1)= -1:=by rw[Jf Z8,Jf Z8]
  rw[e];clear e;by_cases h3:r=65533
  ·subst h3;clear hr;(refine Ye Tryz.func295 Tryz.ntmps295 ?_;intro Fr);refine bM ?_;(refine aL wt rfl (abE rfl rfl) ?_;rintro _ _ ⟨b,rfl,rfl⟩);refine iC ?_;(refine aC (σ:=Nat) (fun p=>p≤2) (fun p=>[]) (fun p=>[iter b [47,0] p]) _ (fun p=>2-p) (0) Zx Ze Zb (fun p hp=> ?_);refine Da ?_);rcases ig p 1 with zx|zx
   ·have:p=0:=Z8
    subst this;refine bM ?_;(refine aL wt rfl (UI rfl rfl aU Z9) ?_;rintro _ _ ⟨rfl,rfl⟩);rw[show jM [47,0] 0=47 from by decide +kernel,show pQ [47,0] 0=1 from by decide +kernel];refine bM ?_;refine Ee (1) ?_ ?_
    ·decide
    ·decide
   ·rcases ig p 2 with zy|zy
    ·have:p=1:=Z8
     subst this;refine bM ?_;(refine aL wt rfl (UI rfl rfl aU Z9) ?_;rintro _ _ ⟨rfl,rfl⟩);rw[show jM [47,0] 1=0 from by decide +kernel,show pQ [47,0] 1=1 from by decide +kernel];refine bM ?_;refine Ee (2) ?_ ?_
     ·decide
     ·decide
    ·refine bM ?_;(refine aL wt rfl (GU rfl rfl aU zy) ?_;rintro _ _ ⟨rfl,rfl⟩);refine bM ?_;exact Ea (x:=⟨rfl,rfl⟩)
  ·have hv:=(hr.resolve_left hlt).resolve_left h3;have V0:=axP r h0 h1 hv;obtain⟨en,he,hl2,hl4,x,hx,hx8⟩:=aMQ r hv Z8;clear hr hv;(refine Ye Tryz.func295 Tryz.ntmps295 ?_;intro Fr);(repeat' (first|refine Y3 ?_|refine Wc (V0 ..) ?_|fail));refine eK wt Jb (awT rfl rfl) ?_;rw[he];have hc:(en.length:Int)-1=((en.length-1:Nat):Int):=Z8
   refine bM ?_;(refine cU (σ:=Unit) (fun _=>True) (fun _=>[]) (fun _=>0) (()) ZT Ze (fun u hu=> ?_);refine Da ?_);by_cases h2:en.length=2
   ·have hlt1:(en.length:Int)-1<2:=Z8
    obtain⟨y,hy,hy0⟩: ∃ y:UInt8,([47,0]:List UInt8)[en.length-1]? =some y∧y.toNat=0:=⟨0,by rw[h2];rfl,rfl⟩;have I0:=KW [] (x.toNat:Int);rw[show Lib.indexByte [] ((x.toNat:Int)).toNat.toUInt8= -1 from rfl] at I0;have hd:([47,0]:List UInt8).drop (en.length-1+1)=[]:=by rw[h2];rfl
    have hc2:(en.length:Int)-1+1=((en.length-1+1:Nat):Int):=Z8
    clear h2;(repeat' (first|refine Y1 ?_|refine Wc (I0 ..) ?_|fail));exact Ea (x:=⟨rfl,rfl⟩)
   ·have hge: ¬ (en.length:Int)-1<(([47,0]:List UInt8).length:Int):=by
     show ¬ (en.length:Int)-1<2;omega
    refine bM ?_;exact Ea (x:=⟨rfl,rfl⟩)
def UW (l:List UInt8):Bool:=decide (47∈l∨0∈l)
theorem adY (l:List UInt8):(0≤Lib.indexAny l [47,0])↔(47∈l∨0∈l):=by
 induction l with
 |nil=>simp [Lib.indexAny]
 |cons b l ih=>
  have h1:=Lib.indexAny_ge [47,0] l;unfold Lib.indexAny;by_cases hb:([47,0]:List UInt8).contains b=true
  ·rw[Jg hb];simp only[List.contains_eq_mem,decide_eq_true_eq,al,ck,or_false] at hb;refine⟨fun _=> ?_,fun _=>Z9⟩;rcases hb with rfl|rfl
   ·exact .inl bu
   ·exact .inr bu
  ·rw[Jf hb];have zy: ¬ (b=47∨b=0):=by simpa using hb
   have e:(47∈b::l∨0∈b::l)↔(47∈l∨0∈l):=by
    simp only[al];constructor
    ·rintro ((h|h)|(h|h))
     ·exact absurd (.inl h.symm) zy
     ·exact .inl h
     ·exact absurd (.inr h.symm) zy
     ·exact .inr h
    ·rintro (h|h)
     ·exact .inl (.inr h)
     ·exact .inr (.inr h)
   rw[e, ←ih];split
   ·rename_i h2;have h3:Lib.indexAny l [47,0]= -1:=by simpa using h2
    constructor
    ·intro h;omega
    ·intro h;omega
   ·rename_i h2;have h3:Lib.indexAny l [47,0]≠ -1:=by simpa using h2
    constructor
    ·intro h;omega
    ·intro h;omega
theorem AZ {l:List UInt8} {p:Nat} {c:UInt8} (h:c∈l.take p): ∃ j,j<p∧j<l.length∧l.getD j 0=c:=by
 obtain⟨j,hj⟩:=abl h;have h1:=(aj.1 hj).1;rw[ar] at h1;rw[abm Z8] at hj;exact⟨j,Z8,Z8,by rw[my,hj];rfl⟩
theorem aFY {l:List UInt8} {j:Nat} (h:j<l.length):l.getD j 0∈l:=by
 rw[my,ak h];exact List.getElem_mem h
theorem aoI (l:List UInt8) (h8:l.length≤8):
  Ct lk 255 [.string (str l), .string (str [47,0])] [] fun v H'=> ∃ r:Int,(0≤r↔(47∈l∨0∈l))∧v= .int .i64 r∧H'=[]:=by
 have h2:(([47,0]:List UInt8).length:Int)=2:=rfl;have e1:(([47,0]:List UInt8)==[])=false:=rfl;have P0:Ct lk 296 [.int .i64 (l.length:Int)] [] fun v H'=>v= .bool false∧H'=[]:=by
  (refine Ye Tryz.func296 Tryz.ntmps296 ?_;intro Fr);refine bM ?_;exact Ea (x:=⟨rfl,rfl⟩)
 (refine Ye Tryz.func255 Tryz.ntmps255 ?_;intro Fr);(repeat' (first|refine Y3 ?_|refine Wc (P0 ..) ?_|fail));(refine aL wt rfl (abE rfl rfl) ?_;rintro _ _ ⟨b,rfl,rfl⟩);refine iC ?_;(refine aC (σ:=Nat) (fun p=>p≤l.length∧ ∀ j,j<p→(l.getD j 0)≠47∧(l.getD j 0)≠0) (fun p=>[]) (fun p=>[iter b l p]) _ (fun p=>l.length-p) (0) (by exact⟨fe _,fun j h=>absurd h Z8⟩) Ze Zb (fun p ⟨hp,hd⟩=> ?_);refine Da ?_);rcases ig p l.length with hlt|zy
 ·obtain⟨f1,f2,f3,f4,f5⟩:=anW hlt;have f6:=aMF l p;have I0:=axQ (jM l p) Z8 Z8 (by rcases f5 with h|h|h;exact .inl Z8;exact .inr (.inl Z8);exact .inr (.inr h));refine bM ?_;(refine aL wt rfl (UI rfl rfl aU hlt) ?_;rintro _ _ ⟨rfl,rfl⟩);by_cases hb:jM l p=47∨jM l p=0
  ·obtain⟨g1,g2⟩:=f3 Z8;obtain⟨r,hr,hr0⟩: ∃ r:Int,(if (jM l p:Int)=47 then (0:Int) else if (jM l p:Int)=0 then 1 else -1)=r∧0≤r:=by
    rcases hb with h|h
    ·exact⟨0,by rw[h];rfl,Z9⟩
    ·exact⟨1,by rw[h];rfl,Z9⟩
   rw[hr] at I0;have hm:(47∈l∨0∈l):=by
    have hg:=aFY hlt;rcases hb with h|h
    ·exact .inl (by rwa [show l.getD p 0=47 from abf.1 (by rw[g2,h];rfl)] at hg)
    ·exact .inr (by rwa [show l.getD p 0=0 from abf.1 (by rw[g2,h];rfl)] at hg)
   clear hr hb f3 f4 f5;refine agC ?_;exact Ea (x:=⟨(p:Int),⟨fun _=>hm,fun _=>Z8⟩,rfl,rfl⟩)
  ·have hr:(if (jM l p:Int)=47 then (0:Int) else if (jM l p:Int)=0 then 1 else -1)= -1:=by rw[Jf Z8,Jf Z8]
   rw[hr] at I0;have hn: ∀ k,k<pQ l p→(l.getD (p+k) 0)≠47∧(l.getD (p+k) 0)≠0:=by
    intro k hk;by_cases h128:jM l p<128
    ·obtain⟨g1,g2⟩:=f3 h128;have:k=0:=Z8
     subst this;rw[fl];refine⟨fun h=>hb (.inl ?_),fun h=>hb (.inr ?_)⟩
     ·rw[←g2,h];rfl
     ·rw[←g2,h];rfl
    ·have g:=f4 Z8 k hk;refine⟨fun h=> ?_,fun h=> ?_⟩
     ·rw[h] at g;exact absurd g Z9
     ·rw[h] at g;exact absurd g Z9
   clear hr hb f3 f4 f5;refine agC ?_;refine Ee (p+pQ l p) ?_ ?_
   ·refine⟨f2,fun j hj=> ?_⟩;rcases ig j p with h|h
    ·exact hd j h
    ·have:=hn (j-p) Z8;rwa [show p+(j-p)=j from by omega] at this
   ·show l.length-(p+pQ l p)<l.length-p;omega
 ·have hm: ¬ (47∈l∨0∈l):=by
   rintro (h|h)
   ·rw[←mz (l:=l)] at h;obtain⟨j,h1,h2,h3⟩:=AZ h;exact (hd j Z8).1 h3
   ·rw[←mz (l:=l)] at h;obtain⟨j,h1,h2,h3⟩:=AZ h;exact (hd j Z8).2 h3
  refine bM ?_;(refine aL wt rfl (GU rfl rfl aU zy) ?_;rintro _ _ ⟨rfl,rfl⟩);refine bM ?_;exact Ea (x:=⟨-1,⟨fun h=>absurd h Z9,fun h=>absurd h hm⟩,rfl,rfl⟩)
theorem axR (l:List UInt8) (h8:8<l.length) (hs:l.length<4294967281):Ct lk 255 [.string (str l), .string (str [47,0])] [] fun v H'=> ∃ r:Int,(0≤r↔(47∈l∨0∈l))∧v= .int .i64 r∧H'=[]:=
 alX (bK fun w _ => (Any.strings_IndexAny_long { Tryz.aKX with } (zero_of_info (n := 256) Jd).1 Jd (str l) (str [47, 0]) w Z9 (by rw [cZ]; exact h8) (by rw [cZ]; exact hs) Z9 (fun j c hj => by
  match j,hj with
  |0,hj=>cases hj;decide
  |1,hj=>cases hj;decide
  | j + 2, hj => cases hj)).mono fun e w' ⟨h1, h2⟩ => ⟨h1, by rw [h2]; exact ((Below.refl _ _).alloc (df _) _).alloc Ja _⟩) fun v H' ⟨h1, h2⟩ => ⟨_, adY l, h1, h2⟩
theorem aFZ (l:List UInt8) (hs:l.length<4294967281):Ct lk 255 [.string (str l), .string (str [47,0])] [] fun v H'=> ∃ r:Int,(0≤r↔(47∈l∨0∈l))∧v= .int .i64 r∧H'=[]:=by
 rcases ig 8 l.length with h|h
 ·exact axR l h hs
 ·exact aoI l h
theorem aGA (l:List UInt8) (hs:l.length<4294967281):
  Ct lk 210 [.string (str l), .string (str [47,0])] [] fun v H'=>v= .bool (UW l)∧H'=[]:=by
 have I0:=aFZ l hs;unfold UW;by_cases h:47∈l∨0∈l
 ·rw[decide_eq_true h];(refine Ye Tryz.func210 Tryz.ntmps210 ?_;intro Fr);refine bM ?_;(refine Ca (I0) ?_;rintro _ _ ⟨_,⟨r,hr,rfl,rfl⟩,rfl⟩;(try refine Da ?_));have zy:=hr.2 h;clear hr;refine iC ?_;exact Ea (x:=⟨rfl,rfl⟩)
 ·rw[decide_eq_false h];(refine Ye Tryz.func210 Tryz.ntmps210 ?_;intro Fr);refine bM ?_;(refine Ca (I0) ?_;rintro _ _ ⟨_,⟨r,hr,rfl,rfl⟩,rfl⟩;(try refine Da ?_));have zy: ¬ 0≤r:=fun h2=>h (hr.1 h2)
  clear hr;refine iC ?_;exact Ea (x:=⟨rfl,rfl⟩)
end uU
namespace uU
open Go.RowKit bO sl
attribute [local irreducible] box own sl bL aH bJ Qt cN cM dG dL eQ
def gU (l:List UInt8):Prop:=l≠[]∧l≠[46]∧l≠[46,46]∧l.length≤12∧UW l=false
instance (l:List UInt8):Decidable (gU l):=by unfold gU;infer_instance
def nT (l:List UInt8):Int:=if gU l then 0 else 11
theorem GZ (l:List UInt8) (hs:l.length≤9223372036854775807):
  Ct lk 143 [.string (str l)] [] fun v H'=>v= .int .i64 (nT l)∧H'=[]:=by
 have zy: ¬ gU l→nT l=11:=fun h=>by unfold nT;rw[Jf h]
 by_cases h1:l=[]
 ·rw[zy fun h=>h.1 h1];have e1:(l==[])=true:=by rw[h1];rfl
  (refine Ye Tryz.func143 Tryz.ntmps143 ?_;intro Fr);refine bM ?_;exact Ea (x:=⟨rfl,rfl⟩)
 ·have e1:(l==[])=false:=by simpa using h1
  by_cases h2:l=[46]
  ·rw[zy fun h=>h.2.1 h2];have e2:(l==[46])=true:=by rw[h2];rfl
   (refine Ye Tryz.func143 Tryz.ntmps143 ?_;intro Fr);refine bM ?_;exact Ea (x:=⟨rfl,rfl⟩)
  ·have e2:(l==[46])=false:=by simpa using h2
   by_cases h3:l=[46,46]
   ·rw[zy fun h=>h.2.2.1 h3];have e3:(l==[46,46])=true:=by rw[h3];rfl
    (refine Ye Tryz.func143 Tryz.ntmps143 ?_;intro Fr);refine bM ?_;exact Ea (x:=⟨rfl,rfl⟩)
   ·have e3:(l==[46,46])=false:=by simpa using h3
    by_cases h4:12<l.length
    ·rw[zy fun h=>by have:=h.2.2.2.1;omega];(refine Ye Tryz.func143 Tryz.ntmps143 ?_;intro Fr);refine bM ?_;exact Ea (x:=⟨rfl,rfl⟩)
    ·have C0:=aGA l Z8;cases hb:UW l with
     |true=>
      rw[zy fun h=>by have:=h.2.2.2.2;rw[hb] at this;cases this];rw[hb] at C0;(refine Ye Tryz.func143 Tryz.ntmps143 ?_;intro Fr);(repeat' (first|refine Y3 ?_|refine Wc (C0 ..) ?_|fail));exact Ea (x:=⟨rfl,rfl⟩)
     |false=>
      have e:nT l=0:=by unfold nT;rw[Jg ⟨h1,h2,h3,Z8,hb⟩]
      rw[e];rw[hb] at C0;(refine Ye Tryz.func143 Tryz.ntmps143 ?_;intro Fr);(repeat' (first|refine Y3 ?_|refine Wc (C0 ..) ?_|fail));exact Ea (x:=⟨rfl,rfl⟩)
end uU
namespace uU
open Go.RowKit bO sl
abbrev blt:List UInt8→List UInt8→Bool:=Op.bytesLess
theorem wI: ∀ a:List UInt8,blt a a=false
 |[]=>rfl
 |x::a=>by
  show (decide (x<x)||(x==x&&blt a a))=false;rw[wI a];simp
theorem zU: ∀ {a b c:List UInt8},blt a b=true→blt b c=true→blt a c=true
 |_,[],_,h,_=>by simp [blt,Op.bytesLess] at h
 |_,_::_,[],_,h=>by simp [blt,Op.bytesLess] at h
 |[],_::_,_::_,_,_=>rfl
 |x::a,y::b,z::c,h1,h2=>by
  change (decide (x<y)||(x==y&&blt a b))=true at h1;change (decide (y<z)||(y==z&&blt b c))=true at h2;show (decide (x<z)||(x==z&&blt a c))=true;simp only[j8,ir,decide_eq_true_eq,beq_iff_eq] at*;rcases h1 with h1|⟨rfl,h1⟩
  ·rcases h2 with h2|⟨rfl,h2⟩
   ·exact .inl (UInt8.lt_trans h1 h2)
   ·exact .inl h1
  ·rcases h2 with h2|⟨rfl,h2⟩
   ·exact .inl h2
   ·exact .inr ⟨rfl,zU h1 h2⟩
theorem asK: ∀ a b:List UInt8,blt a b=true∨a=b∨blt b a=true
 |[],[]=> .inr (.inl rfl)
 |[],_::_=> .inl rfl
 |_::_,[]=> .inr (.inr rfl)
 |x::a,y::b=>by
  show (decide (x<y)||(x==y&&blt a b))=true∨_∨(decide (y<x)||(y==x&&blt b a))=true;simp only[j8,ir,decide_eq_true_eq,beq_iff_eq];rcases Nat.lt_trichotomy x.toNat y.toNat with h|h|h
  ·exact .inl (.inl (abq.2 h))
  ·have:x=y:=abf.1 h;subst this;rcases asK a b with h|h|h
   ·exact .inl (.inr ⟨rfl,h⟩)
   ·exact .inr (.inl (by rw[h]))
   ·exact .inr (.inr (.inr ⟨rfl,h⟩))
  ·exact .inr (.inr (.inl (abq.2 h)))
theorem aGB {a b:List UInt8} (h:blt a b=true):a≠b:=fun e=>by
 subst e;rw[wI] at h;cases h
theorem asL: ∀ a b:List UInt8,Lib.compareBytes a b=if blt a b then -1 else if a=b then 0 else 1
 |[],[]=>rfl
 |[],_::_=>rfl
 |_::_,[]=>rfl
 |x::a,y::b=>by
  unfold Lib.compareBytes;show _=if (decide (x<y)||(x==y&&blt a b))=true then _ else _
  rw[asL a b];by_cases h1:x<y
  ·simp [h1]
  ·by_cases h2:y<x
   ·have h3: ¬ x=y:=fun e=>by subst e;exact h1 h2
    simp [h1,h2,h3]
   ·have h3 : x = y := abf.1 (by
     have e1: ¬ x.toNat<y.toNat:=fun h=>h1 (abq.2 h)
     have e2: ¬ y.toNat<x.toNat:=fun h=>h2 (abq.2 h)
     omega)
    subst h3;simp [h1]
section
variable {P:Program} {n:Nat} {F:eE} {H R:List Ent} {o:Oper} {x y z:Operand} {v u z':Value} {T S:TypeId}
theorem aGC {a b:List UInt8} {T':TypeId} {r:Bool} (ho:o.op= .binOp .geq T x y T') (hx:ev F x=some (.string (str a))) (hy:ev F y=some (.string (str b))) (hr:(!(blt a b))=r):Qt P n o F H (.bool r):=fun ac w ha _=>by
 have e1: ∀ l,(str l).toList=l:=rD;simp [execOp,ho,ha.eval hx,ha.eval hy,eqGuard,binOp,Op.stringOp,e1, ←hr]
end
end uU
