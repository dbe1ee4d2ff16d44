/- FsOps, packed. -/
import Derived.Test.YtbjalbcdbgcgdaaGreatOQ
import Derived.Test.YtbjalbcdbgcgdaaGreatRows
import Derived.Test.YtbjalbcdbgcgdaaGreatO00
open Go.Proofs.Tryz renaming prog->lk
open List renaming append_assoc->fu,cons_append->dw,drop_drop->aah,drop_eq_getElem_cons->bh,drop_left->aar,drop_length->abc,getElem?_drop->aw,getElem?_eq_getElem->ak,getElem?_eq_some_iff->aj,length_append->ae,length_cons->dv,length_drop->bq,length_nil->gr,length_singleton->gk,length_take->ar,mem_cons->al,mem_cons_of_mem->a8,mem_cons_self->bu,mem_of_getElem?->jg,replicate->du,take_append_drop->gl,take_length->mz,take_of_length_le->bd,take_succ_cons->aas
open Nat renaming add_assoc->b9,add_comm->aao,add_mul->ff,add_zero->fl,and_two_pow_sub_one_eq_mod->aal,div_div_eq_div_mul->aaj,div_eq_of_lt->abb,div_lt_of_lt_mul->aak,le_of_lt->abh,le_refl->df,le_trans->gm,lt_of_le_of_lt->aau,lt_of_lt_of_le->di,lt_or_ge->ig,mod_eq_of_lt->aag,mod_lt->jf,mod_mul->aay,mod_one->aax,mul_add->aaz,mul_add_div->abe,mul_assoc->aae,mul_comm->ij,mul_le_mul_left->aat,mul_le_mul_right->cr,mul_mod_left->aap,mul_zero->aav,one_ne_zero->abg,or_comm->aam,pow_add->aac,pow_le_pow_right->mr,pow_mul->abk,pow_pos->abj,pow_succ->n8,succ_mul->jn,two_pow_pos->aaf,zero_le->fe
open Int renaming ofNat_lt->abi,toNat_natCast->dc
open UInt8 renaming ofNat->ky,toNat->aaw,toNat_inj->abf
open Decidable renaming not_not->aab
open ByteArray renaming getElem_eq_getElem_data->aba
open Array renaming getElem?_eq_some_iff->dn
open Bool renaming eq_false_or_eq_true->aaq
open Go.Value renaming int->gh,ownBlock->aai,slice->jw
open Go.IntKind renaming i64->kx,u64->jz,u8->kz,wrap_u64->aad,wrap_u8'->abd
open Go.World renaming ownsRow_nil->aan
open Go.Lit renaming int->kg
set_option linter.unusedVariables false
set_option maxRecDepth 100000
set_option maxHeartbeats 8000000
namespace Go.Proofs.YtbjalbcdbgcgdaaGreat
open Go.RowKit bO
namespace put
def BP:Nat→Nat→List UInt8
 |0,n=>[ky n]
 |f+1,n=>if n<128 then [ky n] else ky (n%128+128)::BP f (n/128)
def cY (n:Nat):List UInt8:=BP 10 n
theorem tD:kS lk 292 5 1 1 (.int .u8 0):=BH Tryz.underlying292 Jd rfl Z9
theorem xH: ∀ (f n:Nat),1≤(BP f n).length∧(BP f n).length≤f+1:=by
 intro f;induction f with
 |zero=>intro n;simp [BP]
 |succ f ih=>
  intro n;rw[BP];split
  ·simp
  ·have:=ih (n/128);simp;omega
theorem aTW (m:Nat):bits BinOp.or kz ((m:Int)%256) 128=((ky (m%128+128)).toNat:Int):=by
 have e:(m:Int)%256=((m%256:Nat):Int):=Z8
 rw[e,show (128:Int)=((128:Nat):Int) from rfl,u8_or_nat _ _ Z8 Z8];have h2:aaw (ky (m%128+128))=m%128+128:=by simp;omega
 rw[h2];congr 1;rcases ig (m%256) 128 with h|h
 ·rw[aam,nat_join 7 128 (m%256) Z9 Z8];omega
 ·have e2:m%256=128+m%128:=Z8
  rw[e2, ←nat_join 7 128 (m%128) Z9 Z8,aam, ←Nat.or_assoc,Nat.or_self,nat_join 7 128 (m%128) Z9 Z8];omega
theorem EW (f m:Nat) (h: ¬ m<128):BP (f+1) m=ky (m%128+128)::BP f (m/128):=by rw[BP,Jf h]
theorem rE (f m:Nat) (h:m<128):BP f m=[ky m]:=by
 cases f with
 |zero=>rfl
 |succ f=>rw[BP,Jg h]
theorem aQL (m:Nat) (h:m<128):(m:Int)=((ky m).toNat:Int):=by
 have h2:aaw (ky m)=m:=by simp;omega
 rw[h2]
theorem oX (n:Nat) (h1:n<18446744073709551616) (W:World):
  Calls lk 245 #[.int .u64 n] W fun e w'=>e= .returned (.string ⟨(cY n).toArray⟩)∧Below W.heap.size W w':=by
 obtain⟨N,rfl⟩: ∃ N,N=n:=⟨_,rfl⟩
 go_enter Tryz.func245,Tryz.ntmps245
 go_wp2_with (fail)
 go_loopw [0,3] (fun x y wr=> ∃ f m:Nat, ∃ xs:List UInt8,m<128^(f+1)∧m<18446744073709551616∧x= .int .u64 m∧wr.ownsRow W.heap.size 5 1 y xs.length (aZ xs)∧xs.length+f=10∧Hid (cY N=xs++BP f m)∧Below W.heap.size W wr) (fun x _ _=>(intOf x).toNat)
 case atStart=>exact⟨10,N,[],Z8,h1,rfl,aan _ _ _ _,rfl,rfl,Below.refl _ _⟩
 case round=>
  obtain⟨f,m,xs,hm,hm2,rfl,hown,hlen,hput,hbel⟩:=hrel;have hsz:=hbel.size;by_cases hlt:m<128
  ·have e8:=Lib.hid (aQL m hlt)
   go_wp2_with (at_builtin;refine alO put.tD rfl (.tmp 14) (.tmp 17) rfl _ _ xs.length (aZ xs) rfl rfl hown rfl ?c3 ?c4 hbel hsz ?_)
   case c3=>omega
   case c4=>unfold maxLen;omega
   intro v' w1 hown1 _ hbel1 _;rw[fV xs (ky m) _ e8.out] at hown1;have hs:=lY (src:=292) (dst:=9) Tryz.underlying292 Tryz.underlying5 Tryz.underlying9 hown1;clear hown1 hown
   go_wp2
   go_ret
   exact⟨by rw[hput.out,rE f m hlt];rfl,hbel1⟩
  ·have e8:=Lib.hid (aTW m)
   go_wp2_with (at_builtin;refine alO put.tD rfl (.tmp 8) (.tmp 12) rfl _ _ xs.length (aZ xs) rfl rfl hown rfl ?c3 ?c4 hbel hsz ?_)
   case c3=>omega
   case c4=>unfold maxLen;omega
   intro v' w1 hown1 _ hbel1 _;rw[fV xs (ky (m%128+128)) _ e8.out] at hown1;clear hown
   go_wp2
   go_roundw
   case rel=>
    obtain⟨f,rfl⟩: ∃ g,f=g+1:=by
     cases f with
     |zero=>omega
     |succ f=>exact⟨f,rfl⟩
    refine⟨f,m/128,xs++[ky (m%128+128)], ?_,Z8, ?_,by simpa using hown1,by simp;omega, ?_,hbel1⟩
    ·rw[n8] at hm;exact aak (by rw[ij];exact hm)
    ·exact nJ Z8
    ·show cY N=_;rw[hput.out,EW f m hlt];simp
   case measure=>simp [intOf];omega
end put
namespace fix
open put
def dN (n:Nat):Nat→List UInt8
 |0=>[]
 |k+1=>ky (n/256^k%256)::dN n k
def cF (l:List UInt8):Nat:=l.foldl (fun a b=>a*256+b.toNat) 0
theorem cJ (n k:Nat):(dN n k).length=k:=by
 induction k with
 |zero=>rfl
 |succ k ih=>simp [dN,ih]
theorem acP (n w:Nat) (h1:1≤w) (h2:w≤8) (hn:n<18446744073709551616) (W:World):
  Calls lk 194 #[.int .u64 n, .int .i64 w] W fun e w'=>e= .returned (.string ⟨(dN n w).toArray⟩)∧Below W.heap.size W w':=by
 obtain⟨N,rfl⟩: ∃ N,N=n:=⟨_,rfl⟩
 go_enter Tryz.func194,Tryz.ntmps194
 go_wp2_with (at_make;refine aTC put.tD rfl rfl (.tmp 13) (.tmp 13) rfl .i64 .i64 _ _ w rfl rfl rfl rfl ?c1 ?c2 (Below.refl _ _) (df _) ?_)
 case c1=>omega
 case c2=>unfold maxLen;omega
 intro g w1 hrow _ hbel hsz hg;clear hg
 go_wp2_with (fail)
 go_loopw [0,6] (fun x y wr=> ∃ j:Nat,j≤w∧x= .int .u64 ((N/256^(w-j):Nat):Int)∧y= .int .i64 ((j:Int)-1)∧wr.ownsRow W.heap.size 5 1 (.slice (some ⟨g,0,none⟩) w w) w (du j (.int .u8 0)++aZ (dN N (w-j)))∧Below W.heap.size W wr) (fun _ y _=>(intOf y+1).toNat)
 case atStart=>exact⟨w,df _,Ja,rfl,by simpa [dN,aZ] using hrow,hbel⟩
 case round=>
  obtain⟨j,hj,rfl,hy,hown,hb⟩:=hrel;cases j with
  |zero=>
   obtain rfl:=hy;have hs:=lY (src:=292) (dst:=9) Tryz.underlying292 Tryz.underlying5 Tryz.underlying9 (by simpa using hown);clear hown hrow
   go_wp2_with (fail)
   go_ret
   exact⟨rfl,hb⟩
  |succ i=>
   obtain rfl:_=gh .i64 (i:Int):=hy.trans (nJ Z8);have hc:=hown.cellAt i Z8;rw[List.getElem?_append_left Ja,List.getElem?_replicate,Jg Z8] at hc;have hf:=hown.frozenAt i;obtain⟨k,hk⟩: ∃ k,k=w-(i+1):=⟨_,rfl⟩;have hk2:w-i=k+1:=Z8
   rw[←hk] at hown ⊢;obtain⟨m,hm⟩: ∃ m,m=N/256^k:=⟨_,rfl⟩;rw[←hm];have hst:=(hown.stored i (.int .u8 ((m:Int)%256))).1;have e1:(du (i+1) (gh .u8 0)++aZ (dN N k)).set i (gh .u8 ((m:Int)%256))=du i (gh .u8 0)++aZ (dN N (k+1)):=by
    rw[List.replicate_succ',fu,List.set_append_right _ _ Ja];simp [dN,aZ, ←hm]
   rw[e1] at hst;have hgb:=hown.lt _ rfl;clear hown hrow hy;have HST:=Lib.hid hst;have HK:=Lib.hid hk2;have HM:=Lib.hid hm;clear hst hk hk2 hm e1
   go_wp2_with (fail)
   go_roundw
   case rel=>
    refine⟨i,Z8,nJ ?_,rfl,by rw[HK.out];exact HST.out,hb.setCell (p:=⟨g,i,none⟩) hgb.1 _⟩;rw[HK.out,n8, ←aaj, ←HM.out];rfl
   case measure=>simp [intOf]
theorem agG (l:List UInt8) (b:UInt8):cF (l++[b])=cF l*256+b.toNat:=by simp [cF]
theorem aBT (l:List UInt8): ∀ (a k:Nat),a<256^k→l.foldl (fun a b=>a*256+b.toNat) a<256^(k+l.length):=by
 induction l with
 |nil=>intro a k h;simpa using h
 |cons b l ih=>
  intro a k h;have:=b.toNat_lt;have h2:a*256+b.toNat<256^(k+1):=by rw[n8];omega
  have:=ih _ _ h2;rw[dv,aao l.length 1, ←b9];exact this
theorem qT (l:List UInt8):cF l<256^l.length:=by
 have:=aBT l 0 0 Z9;simpa [cF] using this
theorem sP (m b k:Nat) (hm:m<256^k) (hk:k<8) (hb:b<256):bits BinOp.or jz (jz.wrap ((m:Int)*256)) (jz.wrap (b:Int))=((m*256+b:Nat):Int):=by
 have h:(256:Nat)^k≤256^7:=mr Z9 Z8;have e7:(256:Nat)^7=72057594037927936:=Z9
 have e:jz.wrap ((m:Int)*256)=((m*256:Nat):Int):=by rw[aad];omega
 rw[e,show jz.wrap (b:Int)=(b:Int) from by rw[aad];omega,u64_or_nat _ _ Z8 Z8];congr 1;exact nat_join 8 (m*256) b Z8 Z8
theorem auH (s:ByteArray) (hs:s.size≤8) (W:World):
  Calls lk 227 #[.string s] W fun e w'=>e= .returned (.tuple #[.int .u64 (cF s.data.toList:Int), .int .i64 0])∧W=w':=by
 go_enter Tryz.func227,Tryz.ntmps227
 go_wp2_with (fail)
 go_loop [4,5,11] (fun x _ y=> ∃ k:Nat,k≤s.size∧x= .int .u64 (cF (s.data.toList.take k):Int)∧y= .int .i64 k) (fun _ _ y=>8-(intOf y).toNat)
 case atStart=>exact⟨0,fe _,rfl,rfl⟩
 case round=>
  obtain⟨k,hk,rfl,rfl⟩:=hrel;by_cases hlt:k<s.size
  ·have e:s.data.toList.take (k+1)=s.data.toList.take k++[s[k]]:=by
    rw[List.take_succ_eq_append_getElem Z2];rfl
   have hl:=qT (s.data.toList.take k);have hl2:(s.data.toList.take k).length=k:=by rw[ar];have:s.data.toList.length=s.size:=(Lib.size_eq s).symm;omega
   rw[hl2] at hl;have hor:=sP _ s[k].toNat k hl Z8 s[k].toNat_lt;have HO:Hid (bits BinOp.or jz (jz.wrap ((cF (s.data.toList.take k):Int)*256)) (jz.wrap (s[k].toNat:Int))=(cF (s.data.toList.take (k+1)):Int)):=by
    show _=_;rw[hor,e,agG]
   clear hor e hl2 hl
   go_wp2_with (fail)
   go_round
   case rel=>exact⟨k+1,Z8,nJ HO.out,by go_num⟩
   case measure=>simp [intOf];omega
  ·obtain rfl:k=s.size:=Z8
   have HE:Hid (s.data.toList.take s.size=s.data.toList):=bd ZR
   go_wp2_with (fail)
   go_ret2
   exact⟨by rw[HE.out];rfl,rfl⟩
end fix
namespace XA
open fix
theorem agL: ∀ (l:List UInt8) (a:Nat),l.foldl (fun a b=>a*256+b.toNat) a=a*256^l.length+cF l:=by
 intro l;induction l with
 |nil=>intro a;simp [cF]
 |cons b l ih=>
  intro a;have e:cF (b::l)=l.foldl (fun a b=>a*256+b.toNat) b.toNat:=by simp [cF]
  rw[List.foldl_cons,ih,e,ih,dv,n8,ff,aae,ij 256,b9]
theorem QZ (b:UInt8) (l:List UInt8):cF (b::l)=b.toNat*256^l.length+cF l:=by
 have e:cF (b::l)=l.foldl (fun a b=>a*256+b.toNat) b.toNat:=by simp [cF]
 rw[e,agL]
theorem zD (n:Nat): ∀ k,cF (dN n k)=n%256^k:=by
 intro k;induction k with
 |zero=>simp [dN,cF,aax]
 |succ k ih=>
  have h:(ky (n/256^k%256)).toNat=n/256^k%256:=Ja
  rw[dN,QZ,cJ,ih,h,n8,aay,ij (256^k),aao]
theorem aBZ (b m:Nat): ∀ k j,j≤k→dN (b*256^k+m) j=dN m j:=by
 intro k j;induction j with
 |zero=>intro _;rfl
 |succ j ih=>
  intro hj;have e:(b*256^k+m)/256^j%256=m/256^j%256:=by
   obtain⟨d,rfl⟩: ∃ d,k=j+1+d:=⟨k-(j+1),Z8⟩;rw[show b*256^(j+1+d)=256^j*(256*(b*256^d)) from by rw[aac,n8];simp only[ij,Nat.mul_left_comm,aae]];rw[abe (abj Z9)];omega
  rw[dN,dN,e,ih Z8]
theorem YV: ∀ l:List UInt8,dN (cF l) l.length=l:=by
 intro l;induction l with
 |nil=>rfl
 |cons b l ih=>
  have hlt:=qT l;have hb:=b.toNat_lt;have hp:0<256^l.length:=abj Z9;have e:(b.toNat*256^l.length+cF l)/256^l.length=b.toNat:=by
   rw[ij,abe hp,abb hlt,fl]
  rw[dv,QZ,dN,e,aBZ _ _ _ _ (df _),ih,aag hb];simp
theorem sQ (n:Nat) (h:n<256):dN n 1=[ky n]:=by
 show [ky (n/256^0%256)]=_;rw[Nat.pow_zero,Nat.div_one,aag h]
theorem agM (b:UInt8):dN b.toNat 1=[b]:=by rw[sQ _ b.toNat_lt];simp
end XA
namespace get
open put
def AG:Nat→Nat→Nat→List UInt8→Nat×Nat×Nat
 |0,_,_,_=>(0,0,4)
 |_+1,_,_,[]=>(0,0,3)
 |f+1,i,n,b::r=>
  if i=9∧1<b.toNat∨0<i∧b.toNat=0 then (0,0,4)
  else if b.toNat<128 then (n+b.toNat%128*128^i,i+1,0)
  else AG f (i+1) (n+b.toNat%128*128^i) r
def fK (l:List UInt8):Nat×Nat×Nat:=AG 10 0 0 l
def aQN (r:Nat×Nat×Nat):Value:= .tuple #[.int .u64 (r.1:Int), .int .i64 (r.2.1:Int), .int .i64 (r.2.2:Int)]
theorem sP (n i b:Nat) (hi:i≤9) (hn:n<128^i) (hb:b<256) (h9: ¬ (i=9∧1<b)):bits BinOp.or jz (n:Int) (jz.wrap (jz.wrap (bits BinOp.and kz (b:Int) 127)*2^(7*i)))=((n+b%128*128^i:Nat):Int)∧n+b%128*128^i<128^(i+1)∧n+b%128*128^i<18446744073709551616:=by
 have e1:bits BinOp.and kz (b:Int) 127=((b%128:Nat):Int):=by
  rw[show (127:Int)=((127:Nat):Int) from rfl,u8_and_nat _ _ hb Z9,nat_mask7]
 have e2:(128:Nat)^i=2^(7*i):=by rw[abk]
 have hlt:b%128*128^i+128^i≤128^(i+1):=by
  rw[n8,ij (128^i) 128, ←jn];exact cr _ Z8
 have zy:n+b%128*128^i<18446744073709551616:=by
  by_cases h:i=9
  ·subst h;have:b%128≤1:=Z8
   have h2:b%128*128^9≤1*128^9:=cr _ this;have:(128:Nat)^9=9223372036854775808:=Z9
   omega
  ·have h2:(128:Nat)^(i+1)≤128^9:=mr Z9 Z8;have:(128:Nat)^9=9223372036854775808:=Z9
   omega
 refine⟨?_,Z8,zy⟩;rw[e1,show jz.wrap (((b%128:Nat):Int))=((b%128:Nat):Int) from by rw[aad];omega,show ((2:Int)^(7*i))=((2^(7*i):Nat):Int) from by simp, ←Int.natCast_mul, ←e2,aad];rw[show (((b%128*128^i:Nat):Int)%18446744073709551616)=((b%128*128^i:Nat):Int) from by omega];rw[u64_or_nat _ _ Z8 Z8];congr 1;rw[aam,nat_join (7*i) _ _ (by rw[←e2];exact aap _ _) (by rw[←e2];exact hn)];omega
theorem agO (f i n:Nat) (b:UInt8) (r:List UInt8) (h:i=9∧1<b.toNat∨0<i∧b.toNat=0):AG (f+1) i n (b::r)=(0,0,4):=by rw[AG,Jg h]
theorem JP (f i n:Nat) (b:UInt8) (r:List UInt8) (h: ¬ (i=9∧1<b.toNat∨0<i∧b.toNat=0)) (h2:b.toNat<128):AG (f+1) i n (b::r)=(n+b.toNat%128*128^i,i+1,0):=by rw[AG,Jf h,Jg h2]
theorem JQ (f i n:Nat) (b:UInt8) (r:List UInt8) (h: ¬ (i=9∧1<b.toNat∨0<i∧b.toNat=0)) (h2: ¬ b.toNat<128):AG (f+1) i n (b::r)=AG f (i+1) (n+b.toNat%128*128^i) r:=by rw[AG,Jf h,Jf h2]
theorem FC (s : ByteArray) (hs : s.size ≤ maxLen) (W : World) :
    Calls lk 248 #[.string s] W fun e w' => e = .returned (aQN (fK s.data.toList)) ∧ W = w' := by
  unfold maxLen at hs
  go_enter Tryz.func248, Tryz.ntmps248
  go_wp2_with (fail)
  go_loop [5, 6] (fun x y => ∃ i n : Nat, i ≤ 10 ∧ i ≤ s.size ∧ n < 128 ^ i ∧ n < 18446744073709551616 ∧ x = .int .u64 n ∧ y = .int .i64 i ∧ Hid (fK s.data.toList = AG (10 - i) i n (s.data.toList.drop i))) (fun _ y => 10 - (intOf y).toNat)
  case atStart => exact ⟨0, 0, Z8, Z8, Z9, Z9, rfl, rfl, rfl⟩
  case round =>
    obtain ⟨i, n, hi, his, hn, hn2, rfl, rfl, hget⟩ := hrel
    by_cases h10 : i < 10
    · by_cases hsz : i = s.size
      · have e : fK s.data.toList = (0, 0, 3) := by
          rw [hget.out, hsz, List.drop_of_length_le Ja]
          obtain ⟨k, hk⟩ : ∃ k, 10 - s.size = k + 1 := ⟨9 - s.size, Z8⟩
          rw [hk]; rfl
        have E := Lib.hid e
        clear e hget
        have hb : ((i : Int) == (s.size : Int)) = true := by simp [hsz]
        go_wp2
        go_ret3
        exact ⟨by rw [E.out]; rfl, rfl⟩
      · have hb : ((i : Int) == (s.size : Int)) = false := by simp; omega
        have hlt : i < s.size :=Z8
        have hdrop : s.data.toList.drop i = s[i] :: s.data.toList.drop (i + 1) := by
          rw [bh Z2]; rfl
        obtain ⟨g, hg⟩ : ∃ g, 10 - i = g + 1 := ⟨9 - i, Z8⟩
        have hg2 : 10 - (i + 1) = g :=Z8
        have HG : Hid (fK s.data.toList = AG (g + 1) i n (s[i] :: s.data.toList.drop (i + 1))) := by
          show fK s.data.toList = _
          rw [hget.out, hg, hdrop]
        have HG2 := Lib.hid hg2
        clear hdrop hget hg hg2
        rcases aaq ((i : Int) == 9) with t9 | t9 <;> rcases aaq ((s[i].toNat : Int) == 0) with t0 | t0 <;> by_cases t1 : (1 : Int) < (s[i].toNat : Int) <;> by_cases ti : (0 : Int) < (i : Int) <;> by_cases tl : (s[i].toNat : Int) < 128
        all_goals first | (exfalso; (have a9 := t9; have a0 := t0; simp at a9 a0; omega)) | skip
        all_goals first
          | (have hbad : i = 9 ∧ 1 < s[i].toNat ∨ 0 < i ∧ s[i].toNat = 0 := ZF
             have E : Hid (fK s.data.toList = (0, 0, 4)) := (by (show fK s.data.toList = _; rw [HG.out, agO _ _ _ _ _ hbad]))
             clear HG HG2 hbad
             go_wp2_with (fail)
             go_ret3
             exact ⟨by rw [E.out]; rfl, rfl⟩)
          | (have hbad : ¬ (i = 9 ∧ 1 < s[i].toNat ∨ 0 < i ∧ s[i].toNat = 0) := ZF
             have hlast : s[i].toNat < 128 := Z8
             have ST := Lib.hid (sP n i s[i].toNat Z8 hn s[i].toNat_lt Z8)
             have E : Hid (fK s.data.toList = (n + s[i].toNat % 128 * 128 ^ i, i + 1, 0)) := (by (show fK s.data.toList = _; rw [HG.out, JP _ _ _ _ _ hbad hlast]))
             clear HG HG2 hbad
             go_wp2_with (fail)
             go_ret3
             exact ⟨by rw [E.out, aQN, ← ST.out.1]; rfl, rfl⟩)
          | (have hbad : ¬ (i = 9 ∧ 1 < s[i].toNat ∨ 0 < i ∧ s[i].toNat = 0) := ZF
             have hlast : ¬ s[i].toNat < 128 := Z8
             have ST := Lib.hid (sP n i s[i].toNat Z8 hn s[i].toNat_lt Z8)
             have E : Hid (fK s.data.toList = AG g (i + 1) (n + s[i].toNat % 128 * 128 ^ i) (s.data.toList.drop (i + 1))) := (by (show fK s.data.toList = _; rw [HG.out, JQ _ _ _ _ _ hbad hlast]))
             clear HG hbad
             go_wp2_with (fail)
             go_round
             case rel => exact ⟨i + 1, _, Z8, Z8, ST.out.2.1, ST.out.2.2, nJ ST.out.1, by go_num, by rw [HG2.out]; exact E⟩
             case measure => simp [intOf]; omega)
          | skip
    · obtain rfl : i = 10 :=Z8
      have E : Hid (fK s.data.toList = (0, 0, 4)) := by
        show fK s.data.toList = _
        rw [hget.out]; rfl
      clear hget
      go_wp2_with (fail)
      go_ret3
      exact ⟨by rw [E.out]; rfl, rfl⟩
theorem amB (s:ByteArray) (hs:s.size≤maxLen) (n k e:Nat) (h:fK s.data.toList=(n,k,e)) (W:World):Calls lk 248 #[.string s] W fun x w'=>x= .returned (.tuple #[.int .u64 (n:Int), .int .i64 (k:Int), .int .i64 (e:Int)])∧W=w':=
 (FC s hs W).mono fun x w' ⟨hx,hw⟩=>⟨by rw[hx,h];rfl,hw⟩
theorem amC: ∀ (f i n:Nat) (l:List UInt8),i+f=10→n<128^i→n<18446744073709551616→(∃ k m,AG f i n l=(n+m*128^i,i+k,0)∧1≤k∧k≤l.length∧n+m*128^i<18446744073709551616∧BP f m=l.take k∧(0<i→m≠0))∨AG f i n l=(0,0,3)∨AG f i n l=(0,0,4):=by
 intro f;induction f with
 |zero=>intro i n l hi _ _;exact .inr (.inr rfl)
 |succ f ih=>
  intro i n l hi hn hn2;cases l with
  |nil=>exact .inr (.inl rfl)
  |cons b r=>
   by_cases zy:i=9∧1<b.toNat∨0<i∧b.toNat=0
   ·exact .inr (.inr (agO _ _ _ _ _ zy))
   ·have ST:=sP n i b.toNat Z8 hn b.toNat_lt Z8;by_cases hl:b.toNat<128
    ·refine .inl ⟨1,b.toNat, ?_,Z8,Ja, ?_, ?_,Z8⟩
     ·rw[JP _ _ _ _ _ zy hl,aag hl]
     ·have:=ST.2.2;rwa [aag hl] at this
     ·rw[rE _ _ hl];simp
    ·rw[JQ _ _ _ _ _ zy hl];rcases ih (i+1) (n+b.toNat%128*128^i) r Z8 ST.2.1 ST.2.2 with⟨k,m,h1,h2,h3,h4,h5,h6⟩|h|h
     ·have e:n+b.toNat%128*128^i+m*128^(i+1)=n+(b.toNat%128+m*128)*128^i:=by
       rw[n8,ff,aae m 128,ij 128,b9]
      rw[e] at h1 h4;have hm:=h6 Z8;refine .inl ⟨k+1,b.toNat%128+m*128, ?_,Z8,by simp;omega,h4, ?_,Z8⟩
      ·rw[h1,b9,aao 1 k]
      ·rw[EW _ _ Z8];have e1:(b.toNat%128+m*128)/128=m:=Z8
       have e2:(b.toNat%128+m*128)%128+128=b.toNat:=by have:=b.toNat_lt;omega
       rw[e1,e2,h5];simp
     ·exact .inr (.inl h)
     ·exact .inr (.inr h)
theorem rG (l:List UInt8):(∃ k m,fK l=(m,k,0)∧1≤k∧k≤l.length∧m<18446744073709551616∧cY m=l.take k)∨fK l=(0,0,3)∨fK l=(0,0,4):=by
 rcases amC 10 0 0 l rfl Z9 Z9 with⟨k,m,h1,h2,h3,h4,h5,_⟩|h|h
 ·simp at h1 h4;exact .inl ⟨k,m,h1,h2,h3,h4,h5⟩
 ·exact .inr (.inl h)
 ·exact .inr (.inr h)
end get
namespace get
open put
theorem aKJ: ∀ (f i n m:Nat) (more:List UInt8),i+f=10→n<128^i→(0<i→m≠0)→n+m*128^i<18446744073709551616→AG f i n (BP f m++more)=(n+m*128^i,i+(BP f m).length,0):=by
 intro f;induction f with
 |zero=>
  intro i n m more hi hn h0 hb;have:i=10:=Z8
  subst this;have:m≠0:=h0 Z8;have:1*128^10≤m*128^10:=cr _ Z8;have e:(128:Nat)^10=1180591620717411303424:=Z9
  omega
 |succ f ih=>
  intro i n m more hi hn h0 hb;by_cases hs:m<128
  ·rw[rE _ _ hs];have e:(ky m).toNat=m:=by simp;omega
   have zy: ¬ (i=9∧1<(ky m).toNat∨0<i∧(ky m).toNat=0):=by
    rw[e];rintro (⟨h9,h1⟩|⟨h1,h2⟩)
    ·subst h9;have:2*128^9≤m*128^9:=cr _ Z8;have e9:(128:Nat)^9=9223372036854775808:=Z9
     omega
    ·exact h0 h1 h2
   rw[List.singleton_append,JP _ _ _ _ _ zy (by rw[e];exact hs),e,aag hs];simp
  ·have zx:=EW f m hs;rw[zx];have e:(ky (m%128+128)).toNat=m%128+128:=by simp;omega
   have hi9:i<9:=by
    rcases ig i 9 with h|h
    ·exact h
    ·have h2:(128:Nat)^9≤128^i:=mr Z9 h;have h3:128*128^9≤m*128^i:=Nat.mul_le_mul Z8 h2;have e3:(128:Nat)*128^9=1180591620717411303424:=Z9
     omega
   have e5:n+(m%128+128)%128*128^i+m/128*128^(i+1)=n+m*128^i:=by
    have e6:(m%128+128)%128=m%128:=Z8
    rw[e6,n8,ij (128^i) 128, ←aae,b9, ←ff];congr 2;omega
   rw[dw,JQ _ _ _ _ _ (by rw[e];omega) (by rw[e];omega),e];rw[ih (i+1) _ (m/128) more Z8 ((sP n i (m%128+128) Z8 hn Z8 Z8).2.1) Z8 (by rw[e5];exact hb),e5];simp;omega
theorem FE (n:Nat) (more:List UInt8) (hn:n<18446744073709551616):fK (cY n++more)=(n,(cY n).length,0):=by
 have:=aKJ 10 0 0 n more rfl Z9 Z8 Z8;simpa [fK,cY] using this
end get
namespace dZ
open sl fix XA put get
abbrev bU:=Int×Int×Int×List UInt8
def BR (p:bU):List Value:=[.int .i64 p.1, .int .i64 p.2.1, .int .i64 p.2.2.1, .string (str p.2.2.2)]
theorem OW (p:bU): ∀ u∈BR p,u.oneCell'=true:=by simp [BR,Value.oneCell']
attribute [local irreducible] box own sl bL aH bJ Qt cN cM dG dL eQ
def pP (p:bU):Prop:=p.2.1<0∨48≤p.2.1∨ ¬ (p.1=1∧0≤p.2.2.1∧p.2.2.1<8∨p.1=2∧p.2.2.1=0∨p.1=3∧p.2.2.1=0∧(p.2.2.2).length=0)
instance (p:bU):Decidable (pP p):=by unfold pP;infer_instance
def eC (p:bU):Int:=if pP p then 1 else if 600<((p.2.2.2).length:Int) then 2 else 0
theorem acQ {p:bU} (h:pP p):eC p=1:=by unfold eC;rw[Jg h]
theorem acR {p:bU} (h: ¬ pP p) (h2:600<((p.2.2.2).length:Int)):eC p=2:=by unfold eC;rw[Jf h,Jg h2]
theorem vL {p:bU} (h: ¬ pP p) (h2: ¬ 600<((p.2.2.2).length:Int)):eC p=0:=by unfold eC;rw[Jf h,Jf h2]
theorem mO {p:bU} (h:eC p=0):0≤p.1∧p.1≤3∧0≤p.2.1∧p.2.1<48∧0≤p.2.2.1∧p.2.2.1<8∧(p.2.2.2).length≤600:=by
 by_cases h1:pP p
 ·rw[acQ h1] at h;cases h
 ·by_cases h2:600<((p.2.2.2).length:Int)
  ·rw[acR h1 h2] at h;cases h
  ·unfold pP at h1;omega
theorem bP (k i m:Int) (s:List UInt8):Ct lk 200 [.agg #[.int .i64 k, .int .i64 i, .int .i64 m, .string (str s)]] [] fun v H'=>v= .int .i64 (eC (k,i,m,s))∧H'=[]:=by
 by_cases e1:s=[]
 ·have e2:s.length=0:=by rw[e1];rfl
  have e3:(s==[])=true:=by rw[e1];rfl
  (refine Ye Tryz.func200 Tryz.ntmps200 ?_;intro Fr);(repeat' (first|refine Y3 ?_|(refine Wb ?_;intro b)|(refine Ws ?_ ?_<;>intro h)|fail));all_goals exact qE rfl JD _ ⟨by first|rw[vL Zu Zn]|rw[acQ Zu]|rw[acR Zu Zn]|(exfalso;omega),rfl⟩ MN
 ·have e2:s.length≠0:=fun h=>e1 (List.eq_nil_of_length_eq_zero h)
  have e3:(s==[])=false:=by simpa using e1
  (refine Ye Tryz.func200 Tryz.ntmps200 ?_;intro Fr);(repeat' (first|refine Y3 ?_|(refine Wb ?_;intro b)|(refine Ws ?_ ?_<;>intro h)|fail));all_goals exact qE rfl JD _ ⟨by first|rw[vL Zu Zn]|rw[acQ Zu]|rw[acR Zu Zn]|(exfalso;omega),rfl⟩ MN
theorem OX (p:bU):Ct lk 200 [.agg #[.int .i64 p.1, .int .i64 p.2.1, .int .i64 p.2.2.1, .string (str p.2.2.2)]] [] fun v H'=>v= .int .i64 (eC p)∧H'=[]:=bP p.1 p.2.1 p.2.2.1 p.2.2.2
def dF:List bU→Int
 |[]=>0
 |p::l=>if eC p≠0 then eC p else dF l
theorem xI {l:List bU} {k:Nat} {p:bU} (hp:l[k]? =some p) (h:dF (l.take k)=0) (h1:eC p=0):dF (l.take (k+1))=0:=by
 induction l generalizing k with
 |nil=>simp at hp
 |cons q l ih=>
  cases k with
  |zero=>
   simp at hp;subst hp;simp [dF,h1]
  |succ k=>
   simp only[aas,dF] at h ⊢;split at h
   ·rename_i h2;exact absurd h h2
   ·rename_i h2;rw[Jf h2];exact ih ZK h
theorem zE {l:List bU} {k:Nat} {p:bU} (hp:l[k]? =some p) (h:dF (l.take k)=0) (h1:eC p≠0):dF l=eC p:=by
 induction l generalizing k with
 |nil=>simp at hp
 |cons q l ih=>
  cases k with
  |zero=>
   simp at hp;subst hp;simp [dF,h1]
  |succ k=>
   simp only[aas,dF] at h ⊢;split at h
   ·rename_i h2;exact absurd h h2
   ·rename_i h2;rw[Jf h2];exact ih ZK h
theorem lI {l:List bU}:dF l=0↔ ∀ p∈l,eC p=0:=by
 induction l with
 |nil=>simp [dF]
 |cons q l ih=>
  simp only[dF];split
  ·rename_i h;constructor
   ·intro h2;exact absurd h2 h
   ·intro h2;exact absurd (h2 q bu) h
  ·rename_i h;simp only[ne_eq,aab] at h;rw[ih];constructor
   ·intro h2 p hp;rcases al.1 hp with rfl|hp
    ·exact h
    ·exact h2 p hp
   ·exact fun h2 p hp=>h2 p (a8 _ hp)
def jW (p:bU):List UInt8:=[ky p.1.toNat,ky p.2.1.toNat,ky p.2.2.1.toNat]++cY (p.2.2.2).length++p.2.2.2
def bW (l:List bU):List UInt8:=l.flatMap jW
theorem JR (a b:List bU):bW (a++b)=bW a++bW b:=by simp [bW]
theorem RE {l:List bU} {k:Nat} {p:bU} (hp:l[k]? =some p):bW (l.take (k+1))=bW (l.take k)++jW p:=by
 rw[take_one hp,JR];simp [bW]
def xJ (last:Bool) (n:Nat):List UInt8:=(if last then [1] else [0])++dN n 1
def bE (l:List bU) (last:Bool):List UInt8:=xJ last l.length++bW l
def bR (l:List bU):Int:=if 40<(l.length:Int) then 2 else if dF l≠0 then dF l else if 1000<(2+(bW l).length:Int) then 2 else 0
def fL (l:List bU) (last:Bool):List UInt8:=if bR l=0 then bE l last else []
theorem xK (i:Int) (hi:0≤i∧i<18446744073709551616):Ct lk 245 [.int .u64 i] [] fun v H'=>v= .string (str (cY i.toNat))∧H'=[]:=by
 obtain⟨n,rfl⟩: ∃ n:Nat,i=(n:Int):=⟨i.toNat,Z8⟩;exact bK fun W _=>oX n Z8 W
theorem nN (i:Int) (w:Nat) (h1:1≤w∧w≤8) (hi:0≤i∧i<18446744073709551616):Ct lk 194 [.int .u64 i, .int .i64 (w:Int)] [] fun v H'=>v= .string (str (dN i.toNat w))∧H'=[]:=by
 obtain⟨n,rfl⟩: ∃ n:Nat,i=(n:Int):=⟨i.toNat,Z8⟩;exact bK fun W _=>acP n w h1.1 h1.2 Z8 W
theorem RF (n:Nat):(cY n).length≤11:=(xH 10 n).2
end dZ
namespace dZ
open sl fix XA put get
def rd:Nat→List UInt8→Option (List bU)
 |0,r=>if r=[] then some [] else none
 |k+1,r=>if r.length<3 then none
  else if (fK (r.drop 3)).2.2≠0∨r.length<3+(fK (r.drop 3)).2.1+(fK (r.drop 3)).1 then none
  else if eC (((r.getD 0 0).toNat:Int),((r.getD 1 0).toNat:Int),((r.getD 2 0).toNat:Int),(r.drop (3+(fK (r.drop 3)).2.1)).take (fK (r.drop 3)).1)≠0 then none
  else (rd k (r.drop (3+(fK (r.drop 3)).2.1+(fK (r.drop 3)).1))).map fun l=>(((r.getD 0 0).toNat:Int),((r.getD 1 0).toNat:Int),((r.getD 2 0).toNat:Int),(r.drop (3+(fK (r.drop 3)).2.1)).take (fK (r.drop 3)).1)::l
theorem agP {k:Nat} {r:List UInt8} (h:r.length<3):rd (k+1) r=none:=by rw[rd,Jg h]
theorem amD {k m:Nat} {r:List UInt8} (h: ¬ r.length<3) (hg:fK (r.drop 3)=(0,0,m)) (hm:m≠0):rd (k+1) r=none:=by
 rw[rd,Jf h,hg,Jg (.inl hm)]
theorem aCD {k n j:Nat} {r:List UInt8} (h: ¬ r.length<3) (hg:fK (r.drop 3)=(n,j,0)) (hn:r.length<3+j+n):rd (k+1) r=none:=by
 rw[rd,Jf h,hg,Jg (.inr hn)]
theorem nO {r:List UInt8} {i:Nat} {b:UInt8} (h:r[i]? =some b):r.getD i 0=b:=by rw[List.getD_eq_getElem?_getD,h];rfl
theorem aCE {k n j:Nat} {r:List UInt8} {b0 b1 b2:UInt8} (h: ¬ r.length<3) (hg:fK (r.drop 3)=(n,j,0)) (hn: ¬ r.length<3+j+n) (h0:r[0]? =some b0) (h1:r[1]? =some b1) (h2:r[2]? =some b2) (hb:eC ((b0.toNat:Int),(b1.toNat:Int),(b2.toNat:Int),(r.drop (3+j)).take n)≠0):rd (k+1) r=none:=by
 rw[rd,Jf h,hg,Jf Zq,nO h0,nO h1,nO h2,Jg hb]
theorem OY {k n j:Nat} {r:List UInt8} {b0 b1 b2:UInt8} (h: ¬ r.length<3) (hg:fK (r.drop 3)=(n,j,0)) (hn: ¬ r.length<3+j+n) (h0:r[0]? =some b0) (h1:r[1]? =some b1) (h2:r[2]? =some b2) (hb:eC ((b0.toNat:Int),(b1.toNat:Int),(b2.toNat:Int),(r.drop (3+j)).take n)=0):rd (k+1) r=(rd k (r.drop (3+j+n))).map fun l=>((b0.toNat:Int),(b1.toNat:Int),(b2.toNat:Int),(r.drop (3+j)).take n)::l:=by
 rw[rd,Jf h,hg,Jf Zq,nO h0,nO h1,nO h2,Jf (by simp [hb])]
def RG (L:List UInt8):Prop:=2≤L.length∧L.length≤1000∧(L.getD 0 0).toNat≤1∧(L.getD 1 0).toNat≤40
instance (L:List UInt8):Decidable (RG L):=by unfold RG;infer_instance
def mE (L:List UInt8):Option (List bU):=if RG L then rd (L.getD 1 0).toNat (L.drop 2) else none
def aqO (L:List UInt8) (v:Value) (H':List Ent):Prop:=
 (∃ zs q c,mE L=some zs∧v= .tuple #[.slice q zs.length c, .bool ((L.getD 0 0).toNat==1), .int .i64 0]∧H'=[own (.slice q zs.length c) 175 4 zs.length (flat BR zs)])∨
 (mE L=none∧v= .tuple #[.slice none 0 0, .bool false, .int .i64 4]∧H'=[])
theorem JS {l:List UInt8} {n k:Nat} (h:l.length≤1000000000000000) (e:fK l=(n,k,0)):Ct lk 248 [.string (str l)] [] fun v H'=>v= .tuple #[.int .u64 (n:Int), .int .i64 (k:Int), .int .i64 0]∧H'=[]:=
 bK fun W _ => (FC (str l) ZI W).mono fun e' w' ⟨h1, h2⟩ => ⟨by
  have h3 : fK (str l).data.toList = (n, k, 0) := e;rw [h1, h3]; rfl, by rw [← h2]; exact Below.refl _ _⟩
theorem RH {l:List UInt8} {m:Nat} (h:l.length≤1000000000000000) (e:fK l=(0,0,m)):Ct lk 248 [.string (str l)] [] fun v H'=>v= .tuple #[.int .u64 0, .int .i64 0, .int .i64 (m:Int)]∧H'=[]:=
 bK fun W _ => (FC (str l) ZI W).mono fun e' w' ⟨h1, h2⟩ => ⟨by
  have h3 : fK (str l).data.toList = (0, 0, m) := e;rw [h1, h3]; rfl, by rw [← h2]; exact Below.refl _ _⟩
attribute [local irreducible] box own sl bL aH bJ Qt cN cM dG dL eQ
theorem rI (L:List UInt8) (hL:L.length≤1000000000000000):Ct lk 196 [.string (str L)] [] (aqO L):=by
 have bad:mE L=none→aqO L (.tuple #[.slice none 0 0, .bool false, .int .i64 4]) []:=fun h=> .inr ⟨h,rfl,rfl⟩
 by_cases hh:RG L
 ·obtain⟨h1,h2,h3,h4⟩:=hh;obtain⟨b0,zu⟩: ∃ b0,L[0]? =some b0:=⟨_,ak Z8⟩;obtain⟨b1,zv⟩: ∃ b1,L[1]? =some b1:=⟨_,ak Z8⟩;have hO:mE L=rd b1.toNat (L.drop 2):=by
   unfold mE;rw[Jg ⟨h1,h2,h3,h4⟩,nO zv]
  have zt:=nO zu;rw[zt] at h3;rw[nO zv] at h4;(refine Ye Tryz.func196 Tryz.ntmps196 ?_;intro Fr);refine bM ?_;refine aO (aS _ 175 4) ?_;(refine aC (σ:=Nat×Nat×List bU×Option Addr×Nat) (fun s=>s.1≤b1.toNat∧s.2.1≤L.length∧mE L=(rd (b1.toNat-s.1) (L.drop s.2.1)).map (fun l=>s.2.2.1++l)∧s.2.2.1.length=s.1) (fun s=>[(31, .int .u8 (s.1:Int)),(6, .int .i64 (s.2.1:Int)),(5, .slice s.2.2.2.1 s.2.2.1.length s.2.2.2.2)]) (fun s=>[own (.slice s.2.2.2.1 s.2.2.1.length s.2.2.2.2) 175 4 s.2.2.1.length (flat BR s.2.2.1)]) _ (fun s=>b1.toNat-s.1) ((0,2,[],none,0)) (by exact⟨fe _,h1,(by rw[hO];cases rd b1.toNat (L.drop 2)<;>rfl),rfl⟩) Ze Zb (fun⟨k,at',zs,q,c⟩ ⟨hk,zl,zy,zn⟩=> ?_);refine Da ?_);dsimp only at hk zl zy zn;have hbt:=b1.toNat_lt;rcases ig k b1.toNat with hlt|hge
  ·obtain⟨m,hm⟩: ∃ m,b1.toNat-k=m+1:=⟨b1.toNat-k-1,Z8⟩;have zk:b1.toNat-(k+1)=m:=Z8
   rw[hm] at zy;have none1:rd (m+1) (L.drop at')=none→aqO L (.tuple #[.slice none 0 0, .bool false, .int .i64 4]) []:=fun h=>bad (by rw[zy,h];rfl)
   have hrl:(L.drop at').length=L.length-at':=bq;have zx:(L.drop at').drop 3=L.drop (at'+3):=aah;by_cases h3r:L.length<at'+3
   ·have B0:=none1 (agP Z8);clear zy none1 zx;refine bM ?_;exact Ea (x:=B0)
   ·have zr:(L.drop (at'+3)).length≤1000000000000000:=by rw[bq];omega
    have no2: ∀ m',fK (L.drop (at'+3))=(0,0,m')→m'≠0→aqO L (.tuple #[.slice none 0 0, .bool false, .int .i64 4]) []:=fun m' h h'=>none1 (amD Z8 (by rw[zx];exact h) h')
    rcases rG (L.drop (at'+3)) with⟨j,n,e1,e2,e3,e4,e5⟩|e1|e1
    ·have G1:=JS zr e1;rw[bq] at e3;have e1':fK ((L.drop at').drop 3)=(n,j,0):=by rw[zx];exact e1
     by_cases hn:L.length<at'+(3+j+n)
     ·have B0:=none1 (aCD Z8 e1' Z8);clear zy none1 zx no2 e1 e5 e1';refine QS ?_;exact Ea (x:=B0)
     ·obtain⟨y0,zj⟩: ∃ b,L[at']? =some b:=⟨_,ak Z8⟩;obtain⟨y1,zh⟩: ∃ b,L[at'+1]? =some b:=⟨_,ak Z8⟩;obtain⟨y2,zg⟩: ∃ b,L[at'+2]? =some b:=⟨_,ak Z8⟩;have hX:(L.drop (at'+3+j)).take (at'+3+j+n-(at'+3+j))=((L.drop at').drop (3+j)).take n:=by
       rw[aah,show at'+3+j+n-(at'+3+j)=n from by omega,show at'+(3+j)=at'+3+j from by omega]
      have d0:(L.drop at')[0]? =some y0:=by rw[aw];exact zj
      have d1:(L.drop at')[1]? =some y1:=by rw[aw];exact zh
      have d2:(L.drop at')[2]? =some y2:=by rw[aw];exact zg
      have rb:=fun k=>aCE (k:=k) Z8 e1' Z8 d0 d1 d2
      have rs:=fun k=>OY (k:=k) Z8 e1' Z8 d0 d1 d2
      rw[←hX] at rb rs;have CK:=OX ((y0.toNat:Int),(y1.toNat:Int),(y2.toNat:Int),(L.drop (at'+3+j)).take (at'+3+j+n-(at'+3+j)));have zw:(L.drop at').drop (3+j+n)=L.drop (at'+(3+j+n)):=aah;have t0:=y0.toNat_lt;have t1:=y1.toNat_lt;have t2:=y2.toNat_lt;dsimp only at CK;by_cases hz:eC ((y0.toNat:Int),(y1.toNat:Int),(y2.toNat:Int),(L.drop (at'+3+j)).take (at'+3+j+n-(at'+3+j)))=0
      ·have r1:=rs m hz;rw[zw] at r1;rw[hz] at CK;have zf:mE L=(rd (b1.toNat-(k+1)) (L.drop (at'+(3+j+n)))).map (fun l=>(zs++[((y0.toNat:Int),(y1.toNat:Int),(y2.toNat:Int),(L.drop (at'+3+j)).take (at'+3+j+n-(at'+3+j)))])++l):=by
        rw[zk,zy,r1,Option.map_map];congr 1;funext l;simp
       clear zy none1 zx no2 e1 e5 e1' rb rs r1 hz zw hX d0 d1 d2;(repeat' (first|refine Y1 ?_|(refine Wb ?_;intro b)|(refine Wq ?_;intro q)|refine Wc (G1 ..) ?_|refine Wc (CK ..) ?_|fail));(refine aL wt Jb (by first|exact Ma (BR) [((y0.toNat:Int),(y1.toNat:Int),(y2.toNat:Int),(L.drop (at'+3+j)).take (at'+3+j+n-(at'+3+j)))] rfl|exact Mb (BR) [((y0.toNat:Int),(y1.toNat:Int),(y2.toNat:Int),(L.drop (at'+3+j)).take (at'+3+j+n-(at'+3+j)))] rfl) ?_;rintro _ _ ⟨q2,c2,rfl,rfl⟩);refine iC ?_;refine Ee ((k+1,at'+(3+j+n),zs++[((y0.toNat:Int),(y1.toNat:Int),(y2.toNat:Int),(L.drop (at'+3+j)).take (at'+3+j+n-(at'+3+j)))],q2,c2)) ?_ ?_
       ·exact⟨hlt,(show at'+(3+j+n)≤L.length from Z8),zf,by rw[ae,zn];rfl⟩
       ·show b1.toNat-(k+1)<b1.toNat-k;omega
      ·have B0:=none1 (rb m hz);clear zy none1 zx no2 e1 e5 e1' rb rs zw hX d0 d1 d2;generalize eC ((y0.toNat:Int),(y1.toNat:Int),(y2.toNat:Int),(L.drop (at'+3+j)).take (at'+3+j+n-(at'+3+j)))=z at*;(repeat' (first|refine Y1 ?_|(refine Wb ?_;intro b)|refine Wc (G1 ..) ?_|refine Wc (CK ..) ?_|fail));exact Ea (x:=B0)
    ·have G1:=RH zr e1;have B0:=no2 _ e1 Z9;clear zy none1 zx no2 e1;refine QS ?_;exact Ea (x:=B0)
    ·have G1:=RH zr e1;have B0:=no2 _ e1 Z9;clear zy none1 zx no2 e1;refine QS ?_;exact Ea (x:=B0)
  ·have ze:b1.toNat-k=0:=Z8
   rw[ze] at zy;by_cases zq:at'=L.length
   ·have zm:mE L=some zs:=by
     rw[zy,rd,Jg (by rw[zq];exact abc)];simp
    clear zy;by_cases hb:b0.toNat=1
    ·have hB:((L.getD 0 0).toNat==1)=true:=by rw[zt,hb];rfl
     have zb:(b0.toNat:Int)=1:=Z8
     refine Yw6 ?_;exact Ea (x:= .inl ⟨zs,q,c,zm,by rw[hB],rfl⟩)
    ·have hB:((L.getD 0 0).toNat==1)=false:=by rw[zt];simpa using hb
     have zb:(b0.toNat:Int)≠1:=Z8
     refine Yw6 ?_;exact Ea (x:= .inl ⟨zs,q,c,zm,by rw[hB],rfl⟩)
   ·have B0 := bad (by
     rw[zy,rd,Jf]
     ·rfl
     ·intro h;have := congrArg List.length h;rw [bq] at this;simp at this;omega)
    clear zy;refine bM ?_;exact Ea (x:=B0)
 ·have hO:mE L=none:=by unfold mE;rw[Jf hh]
  have B0:=bad hO;by_cases h1:L.length<2
  ·(refine Ye Tryz.func196 Tryz.ntmps196 ?_;intro Fr);refine bM ?_;exact Ea (x:=B0)
  ·by_cases h2:1000<L.length
   ·(refine Ye Tryz.func196 Tryz.ntmps196 ?_;intro Fr);refine bM ?_;exact Ea (x:=B0)
   ·obtain⟨b0,zu⟩: ∃ b0,L[0]? =some b0:=⟨_,ak Z8⟩;obtain⟨b1,zv⟩: ∃ b1,L[1]? =some b1:=⟨_,ak Z8⟩;have hbb:1<b0.toNat∨40<b1.toNat:=by
     unfold RG at hh;rw[nO zu,nO zv] at hh;omega
    by_cases h3:1<b0.toNat
    ·(refine Ye Tryz.func196 Tryz.ntmps196 ?_;intro Fr);refine bM ?_;exact Ea (x:=B0)
    ·have h4:40<b1.toNat:=Z8
     (refine Ye Tryz.func196 Tryz.ntmps196 ?_;intro Fr);refine bM ?_;exact Ea (x:=B0)
end dZ
namespace dZ
open sl fix XA put get
theorem YW (p:bU) (h:eC p=0) (r:List UInt8): ¬ (jW p++r).length<3∧fK ((jW p++r).drop 3)=(p.2.2.2.length,(cY p.2.2.2.length).length,0)∧ ¬ (jW p++r).length<3+(cY p.2.2.2.length).length+p.2.2.2.length∧(jW p++r)[0]? =some (ky p.1.toNat)∧(jW p++r)[1]? =some (ky p.2.1.toNat)∧(jW p++r)[2]? =some (ky p.2.2.1.toNat)∧((jW p++r).drop (3+(cY p.2.2.2.length).length)).take p.2.2.2.length=p.2.2.2∧(jW p++r).drop (3+(cY p.2.2.2.length).length+p.2.2.2.length)=r:=by
 have hb:=mO h;have e:jW p++r=ky p.1.toNat::ky p.2.1.toNat::ky p.2.2.1.toNat::(cY p.2.2.2.length++(p.2.2.2++r)):=by simp [jW]
 rw[e];have e3: ∀ k,(ky p.1.toNat::ky p.2.1.toNat::ky p.2.2.1.toNat::(cY p.2.2.2.length++(p.2.2.2++r))).drop (3+k)=(cY p.2.2.2.length++(p.2.2.2++r)).drop k:=by
  intro k;rw[show 3+k=k+1+1+1 from by omega];rfl
 refine⟨Ja, ?_,by simp;omega,rfl,rfl,rfl, ?_, ?_⟩
 ·exact FE _ _ Z8
 ·rw[e3,aar,List.take_left]
 ·rw[b9,e3, ←aah,aar,aar]
theorem YX (p:bU) (h:eC p=0):(((ky p.1.toNat).toNat:Int),((ky p.2.1.toNat).toNat:Int),((ky p.2.2.1.toNat).toNat:Int),p.2.2.2)=p:=by
 obtain⟨h0,h1,h2,h3,h4,h5,_⟩:=mO h;obtain⟨a,b,c,d⟩:=p;dsimp only at*;simp only[Prod.mk.injEq,and_true];simp;omega
theorem aqP: ∀ (l:List bU),(∀ p∈l,eC p=0)→rd l.length (bW l)=some l
 |[],_=>rfl
 |p::l,h=>by
  have hp:=h p bu;obtain⟨g1,g2,g3,g4,g5,g6,g7,g8⟩:=YW p hp (bW l);have zy:=YX p hp;have e:bW (p::l)=jW p++bW l:=rfl;rw[e,dv,OY g1 g2 g3 g4 g5 g6 (by rw[g7,zy];exact hp),g7,g8,zy,aqP l fun q hq=>h q (a8 _ hq)];rfl
theorem aCF: ∀ (k:Nat) (r:List UInt8) (l:List bU),rd k r=some l→l.length=k∧bW l=r∧ ∀ p∈l,eC p=0
 |0,r,l,h=>by
  rw[rd] at h;split at h
  ·rename_i hr;cases h;exact⟨rfl,hr.symm,fun p hp=>absurd hp List.not_mem_nil⟩
  ·cases h
 |k+1,r,l,h=>by
  by_cases h3:r.length<3
  ·rw[agP h3] at h;cases h
  ·rcases rG (r.drop 3) with⟨j,n,e1,e2,e3,e4,e5⟩|e1|e1
   ·by_cases hn:r.length<3+j+n
    ·rw[aCD h3 e1 hn] at h;cases h
    ·obtain⟨y0,zy⟩: ∃ b,r[0]? =some b:=⟨_,ak Z8⟩;obtain⟨y1,zx⟩: ∃ b,r[1]? =some b:=⟨_,ak Z8⟩;obtain⟨y2,zw⟩: ∃ b,r[2]? =some b:=⟨_,ak Z8⟩;by_cases hz:eC ((y0.toNat:Int),(y1.toNat:Int),(y2.toNat:Int),(r.drop (3+j)).take n)=0
     ·rw[OY h3 e1 hn zy zx zw hz] at h;obtain⟨l',zv,rfl⟩:=Option.map_eq_some_iff.1 h;obtain⟨g1,g2,g3⟩:=aCF k _ _ zv;refine⟨by rw[dv,g1], ?_,fun p hp=> ?_⟩
      ·have e:bW (((y0.toNat:Int),(y1.toNat:Int),(y2.toNat:Int),(r.drop (3+j)).take n)::l')=jW ((y0.toNat:Int),(y1.toNat:Int),(y2.toNat:Int),(r.drop (3+j)).take n)++bW l':=rfl;have zu:((r.drop (3+j)).take n).length=n:=by rw[ar,bq];omega
       rw[e,g2];unfold jW;simp only[zu,dc,e5]
       match r,h3,zy,zx,zw with
       |a::b::c::t,_,zy,zx,zw=>
        simp only[List.getElem?_cons_zero,List.getElem?_cons_succ,Option.some.injEq] at zy zx zw;subst zy zx zw;have f1: ∀ k,(a::b::c::t).drop (3+k)=t.drop k:=by
         intro k;rw[show 3+k=k+1+1+1 from by omega];rfl
        have f3:(a::b::c::t).drop 3=t:=rfl;have e9:t.take j++((t.drop j).take n++t.drop (j+n))=t:=by rw[←aah,gl,gl]
        rw[b9,f1,f1,f3];simpa using e9
      ·rcases al.1 hp with rfl|hp
       ·exact hz
       ·exact g3 p hp
     ·rw[aCE h3 e1 hn zy zx zw hz] at h;cases h
   ·rw[amD h3 e1 Z9] at h;cases h
   ·rw[amD h3 e1 Z9] at h;cases h
theorem aqQ: ∀ (l:List bU) (more:List UInt8),(∀ p∈l,eC p=0)→more≠[]→rd l.length (bW l++more)=none
 |[],more,_,h=>by
  show rd 0 more=none;rw[rd,Jf h]
 |p::l,more,h,hm=>by
  have hp:=h p bu;obtain⟨g1,g2,g3,g4,g5,g6,g7,g8⟩:=YW p hp (bW l++more);have zy:=YX p hp;have e:bW (p::l)++more=jW p++(bW l++more):=by
   show (jW p++bW l)++more=_;rw[fu]
  rw[e,dv,OY g1 g2 g3 g4 g5 g6 (by rw[g7,zy];exact hp),g7,g8,zy,aqQ l more (fun q hq=>h q (a8 _ hq)) hm];rfl
theorem agQ (last:Bool) (n:Nat) (h:n<256):xJ last n=[(if last then 1 else 0),ky n]:=by
 unfold xJ;rw[sQ n h];cases last<;>rfl
theorem mZ {l:List bU} (h:bR l=0):l.length≤40∧(∀ p∈l,eC p=0)∧2+(bW l).length≤1000:=by
 unfold bR at h;split at h
 ·cases h
 ·split at h
  ·rename_i h2;exact absurd h h2
  ·split at h
   ·cases h
   ·rename_i h1 h2 h3;simp only[ne_eq,aab] at h2;exact⟨Z8,lI.1 h2,Z8⟩
theorem JT {l:List bU} (h:l.length≤40∧(∀ p∈l,eC p=0)∧2+(bW l).length≤1000):bR l=0:=by
 unfold bR;rw[Jf Z8,Jf (by simp [lI.2 h.2.1]),Jf Z8]
theorem lJ {l:List bU} (last:Bool) (h:bR l=0):(bE l last).length≤1000∧mE (bE l last)=some l∧(((bE l last).getD 0 0).toNat==1)=last:=by
 obtain⟨h1,h2,h3⟩:=mZ h;have e:bE l last=(if last then 1 else 0)::ky l.length::bW l:=by
  unfold bE;rw[agQ last _ Z8];rfl
 have hl:(ky l.length).toNat=l.length:=by simp;omega
 rw[e];refine⟨by simp;omega, ?_,by cases last<;>rfl⟩;unfold mE;rw[Jg]
 ·show rd (ky l.length).toNat (bW l)=some l;rw[hl];exact aqP l h2
 ·refine⟨Ja,by simp;omega, ?_, ?_⟩
  ·show (if last then (1:UInt8) else 0).toNat≤1;cases last<;>decide
  ·show (ky l.length).toNat≤40;omega
theorem vM {L:List UInt8} {l:List bU} (h:mE L=some l):bR l=0∧bE l ((L.getD 0 0).toNat==1)=L∧ ∀ more,more≠[]→mE (L++more)=none:=by
 unfold mE at h;split at h
 ·rename_i hh;obtain⟨h1,h2,h3,h4⟩:=hh;obtain⟨g1,g2,g3⟩:=aCF _ _ _ h
  match L,h1,h2,h3,h4,g1,g2,g3 with
  |a::b::t,h1,h2,h3,h4,g1,g2,g3=>
   have h3':a.toNat≤1:=h3;have h4':b.toNat≤40:=h4;have g1':l.length=b.toNat:=g1;have g2':bW l=t:=g2;refine⟨JT ⟨Z8,g3,by rw[g2'];simp at h2;omega⟩, ?_,fun more hm=> ?_⟩
   ·unfold bE;rw[agQ _ _ Z8,g1',g2'];have ea:a=0∨a=1:=by
     rcases ig a.toNat 1 with h|h
     ·left;apply abf.1;show a.toNat=0;omega
     ·right;apply abf.1;show a.toNat=1;omega
    rcases ea with rfl|rfl<;>simp
   ·unfold mE;split
    ·show rd b.toNat (t++more)=none;rw[←g1', ←g2'];exact aqQ l more g3 hm
    ·rfl
 ·cases h
end dZ
namespace dZ
open sl fix XA put get
attribute [local irreducible] box own sl bL aH bJ Qt cN cM dG dL eQ
theorem kJ (q:Option Addr) (c:Nat) (l:List bU) (last:Bool) (hl:l.length≤maxLen):Ct lk 203 [.slice q l.length c, .bool last] [sl 4 (.slice q l.length c) (l.map BR)] fun v H'=>v= .tuple #[.string (str (fL l last)), .int .i64 (bR l)]∧H'=[]:=by
 unfold maxLen at hl;by_cases h40:40<(l.length:Int)
 ·have hE:bR l=2:=by unfold bR;rw[Jg h40]
  have hS:fL l last=[]:=by unfold fL;rw[Jf Zt]
  rw[hE,hS];(refine Ye Tryz.func203 Tryz.ntmps203 ?_;intro Fr);refine bM ?_;exact Ea (x:=⟨rfl,rfl⟩)
 ·have F1:=nN (l.length:Int) 1 Z9 Z8;rw[dc] at F1;have f1:=cJ l.length 1;obtain⟨hd,zw⟩: ∃ hd,hd=xJ last l.length:=⟨_,rfl⟩;have zu:hd.length=2:=by rw[zw];unfold xJ;rw[ae,f1];cases last<;>rfl
  have hW:bE l last=hd++bW l:=by rw[zw];rfl
  (refine Ye Tryz.func203 Tryz.ntmps203 ?_;intro Fr);cases last with
  |false=>
   have h0:[0]++dN l.length 1=hd:=zw.symm;generalize dN l.length 1=f at*;clear zw;(repeat' (first|refine Y3 ?_|refine Wc (F1 ..) ?_|fail));rw[h0];(refine aC (σ:=Nat×List UInt8) (fun s=>s.1≤l.length∧dF (l.take s.1)=0∧s.2=hd++bW (l.take s.1)∧s.2.length≤2+614*s.1) (fun s=>[(22, .int .i64 (s.1:Int)),(6, .string (str s.2))]) (fun s=>[]) _ (fun s=>l.length-s.1) ((0,hd)) (by exact⟨fe _,rfl,by simp [bW],by show hd.length≤_;omega⟩) Ze Zb (fun⟨k,o⟩ ⟨hk,hf,ho,zt⟩=> ?_);refine Da ?_);dsimp only at hk hf ho zt;rcases dW l k with⟨p,hp,hlt⟩|zr
   ·have CK:=OX p;by_cases hz:eC p=0
    ·have hb:=mO hz;rw[hz] at CK;have zq:=xI hp hf hz;have zv:=RE hp;have ob:jW p=[ky p.1.toNat,ky p.2.1.toNat,ky p.2.2.1.toNat]++cY p.2.2.2.length++p.2.2.2:=rfl;have P1:=xK (p.2.2.2.length:Int) Z8;rw[dc] at P1;have pl:=RF p.2.2.2.length;generalize cY p.2.2.2.length=pb at*;rw[ob] at zv;clear hf hz ob;(repeat' (first|refine Y1 ?_|(refine Wb ?_;intro b)|(refine Wq ?_;intro q)|refine Wc (CK ..) ?_|refine Wc (P1 ..) ?_|(refine aB 10 ?_;refine cD 16 Je ?_ ?_)|(refine Wj ?_;intro q)|refine Wz ?_|fail));all_goals
      refine Ee ((k+1,o++([ky p.1.toNat,ky p.2.1.toNat,ky p.2.2.1.toNat]++pb++p.2.2.2))) ?_ ?_
      ·refine⟨hlt,zq, ?_, ?_⟩
       ·show o++_=hd++bW (l.take (k+1));rw[zv,ho,fu]
       ·show (o++_).length≤2+614*(k+1);simp only[ae,dv,gr];omega
      ·show l.length-(k+1)<l.length-k;omega
    ·have hE:bR l=eC p:=by unfold bR;rw[Jf h40,zE hp hf hz,Jg hz]
     have hS:fL l false=[]:=by unfold fL;rw[Jf (by rw[hE];exact hz)]
     rw[hE,hS];clear hE hS ho hf;generalize eC p=z at*;(refine yY ?_;intro b);exact Ea (x:=⟨rfl,rfl⟩)
   ·rw[bd zr] at hf ho;by_cases zy:1000<(2+(bW l).length:Int)
    ·have hE:bR l=2:=by unfold bR;rw[Jf h40,Jf ZV,Jg zy]
     have hS:fL l false=[]:=by unfold fL;rw[Jf Zt]
     have zx:o.length=2+(bW l).length:=by rw[ho,ae,zu]
     rw[hE,hS];clear hE hS ho hf;refine bM ?_;exact Ea (x:=⟨rfl,rfl⟩)
    ·have hE:bR l=0:=by unfold bR;rw[Jf h40,Jf ZV,Jf zy]
     have hS:fL l false=o:=by unfold fL;rw[Jg hE,hW,ho]
     have zx:o.length=2+(bW l).length:=by rw[ho,ae,zu]
     rw[hE,hS];clear hE hS ho hf hW;refine bM ?_;exact Ea (x:=⟨rfl,rfl⟩)
  |true=>
   have h0:[1]++dN l.length 1=hd:=zw.symm;generalize dN l.length 1=f at*;clear zw;(repeat' (first|refine Y3 ?_|refine Wc (F1 ..) ?_|fail));rw[h0];(refine aC (σ:=Nat×List UInt8) (fun s=>s.1≤l.length∧dF (l.take s.1)=0∧s.2=hd++bW (l.take s.1)∧s.2.length≤2+614*s.1) (fun s=>[(22, .int .i64 (s.1:Int)),(6, .string (str s.2))]) (fun s=>[]) _ (fun s=>l.length-s.1) ((0,hd)) (by exact⟨fe _,rfl,by simp [bW],by show hd.length≤_;omega⟩) Ze Zb (fun⟨k,o⟩ ⟨hk,hf,ho,zt⟩=> ?_);refine Da ?_);dsimp only at hk hf ho zt;rcases dW l k with⟨p,hp,hlt⟩|zr
   ·have CK:=OX p;by_cases hz:eC p=0
    ·have hb:=mO hz;rw[hz] at CK;have zq:=xI hp hf hz;have zv:=RE hp;have ob:jW p=[ky p.1.toNat,ky p.2.1.toNat,ky p.2.2.1.toNat]++cY p.2.2.2.length++p.2.2.2:=rfl;have P1:=xK (p.2.2.2.length:Int) Z8;rw[dc] at P1;have pl:=RF p.2.2.2.length;generalize cY p.2.2.2.length=pb at*;rw[ob] at zv;clear hf hz ob;(repeat' (first|refine Y1 ?_|(refine Wb ?_;intro b)|(refine Wq ?_;intro q)|refine Wc (CK ..) ?_|refine Wc (P1 ..) ?_|(refine aB 10 ?_;refine cD 16 Je ?_ ?_)|(refine Wj ?_;intro q)|refine Wz ?_|fail));all_goals
      refine Ee ((k+1,o++([ky p.1.toNat,ky p.2.1.toNat,ky p.2.2.1.toNat]++pb++p.2.2.2))) ?_ ?_
      ·refine⟨hlt,zq, ?_, ?_⟩
       ·show o++_=hd++bW (l.take (k+1));rw[zv,ho,fu]
       ·show (o++_).length≤2+614*(k+1);simp only[ae,dv,gr];omega
      ·show l.length-(k+1)<l.length-k;omega
    ·have hE:bR l=eC p:=by unfold bR;rw[Jf h40,zE hp hf hz,Jg hz]
     have hS:fL l true=[]:=by unfold fL;rw[Jf (by rw[hE];exact hz)]
     rw[hE,hS];clear hE hS ho hf;generalize eC p=z at*;(refine yY ?_;intro b);exact Ea (x:=⟨rfl,rfl⟩)
   ·rw[bd zr] at hf ho;by_cases zy:1000<(2+(bW l).length:Int)
    ·have hE:bR l=2:=by unfold bR;rw[Jf h40,Jf ZV,Jg zy]
     have hS:fL l true=[]:=by unfold fL;rw[Jf Zt]
     have zx:o.length=2+(bW l).length:=by rw[ho,ae,zu]
     rw[hE,hS];clear hE hS ho hf;refine bM ?_;exact Ea (x:=⟨rfl,rfl⟩)
    ·have hE:bR l=0:=by unfold bR;rw[Jf h40,Jf ZV,Jf zy]
     have hS:fL l true=o:=by unfold fL;rw[Jg hE,hW,ho]
     have zx:o.length=2+(bW l).length:=by rw[ho,ae,zu]
     rw[hE,hS];clear hE hS ho hf hW;refine bM ?_;exact Ea (x:=⟨rfl,rfl⟩)
end dZ
namespace dZ
open sl fix XA put get
theorem aDC {n:Nat} (h:n<128):(cY n).length=1:=by
 unfold cY;rw[rE 10 n h];rfl
theorem aDD {n:Nat} (h: ¬ n<128) (h2:n<16384):(cY n).length=2:=by
 unfold cY;rw[EW 9 n h,rE 9 (n/128) Z8];rfl
theorem ahN {p:bU} (h:p.2.2.2.length<128):(jW p).length=p.2.2.2.length+4:=by
 unfold jW;simp only[ae,dv,gr,aDC h];omega
theorem ahO {p:bU} (h: ¬ p.2.2.2.length<128) (h2:p.2.2.2.length≤600):(jW p).length=p.2.2.2.length+5:=by
 unfold jW;simp only[ae,dv,gr,aDD h Z8];omega
theorem aqZ {p:bU} (h2:p.2.2.2.length≤600):4≤(jW p).length∧(jW p).length≤605:=by
 by_cases h:p.2.2.2.length<128
 ·rw[ahN h];omega
 ·rw[ahO h h2];omega
def grF:List bU→Nat→Nat→List Int→List Int
 |[],n,_,out=>if 0<n then out++[(n:Int)] else out
 |p::l,n,sz,out=>if n=40∨1000<sz+(jW p).length then grF l 1 (2+(jW p).length) (out++[(n:Int)]) else grF l (n+1) (sz+(jW p).length) out
def aV (l:List bU):List Int×Int:=if dF l≠0 then ([],dF l) else (grF l 0 2 [],0)
attribute [local irreducible] box own sl bL aH bJ Qt cN cM dG dL eQ
theorem aDE (p:bU) (h:p.2.2.2.length≤600):Ct lk 201 [.agg #[.int .i64 p.1, .int .i64 p.2.1, .int .i64 p.2.2.1, .string (str p.2.2.2)]] [] fun v H'=>v= .int .i64 (((jW p).length:Nat):Int)∧H'=[]:=by
 by_cases h1:p.2.2.2.length<128
 ·have e:(((jW p).length:Nat):Int)=3+(p.2.2.2.length:Int)+1:=by rw[ahN h1];omega
  rw[e];(refine Ye Tryz.func201 Tryz.ntmps201 ?_;intro Fr);(refine bF ?_;intro b);exact Ea (x:=⟨rfl,rfl⟩)
 ·have e:(((jW p).length:Nat):Int)=3+(p.2.2.2.length:Int)+1+1:=by rw[ahO h1 h];omega
  rw[e];(refine Ye Tryz.func201 Tryz.ntmps201 ?_;intro Fr);(refine bF ?_;intro b);exact Ea (x:=⟨rfl,rfl⟩)
theorem uG (q:Option Addr) (c:Nat) (l:List bU) (hl:l.length≤10000000000000):
  Ct lk 133 [.slice q l.length c] [sl 4 (.slice q l.length c) (l.map BR)] fun v H'=> ∃ q2 c2,v= .tuple #[.slice q2 (aV l).1.length c2, .int .i64 (aV l).2]∧H'=[own (.slice q2 (aV l).1.length c2) 3 1 (aV l).1.length (flat fI (aV l).1)]:=by
 obtain⟨r,hr⟩: ∃ r,grF l 0 2 []=r:=⟨_,rfl⟩;unfold aV;rw[hr];(refine Ye Tryz.func133 Tryz.ntmps133 ?_;intro Fr);refine bM ?_;refine aO (aS _ 3 1) ?_;(refine aC (σ:=Nat×Nat×Nat×Option Addr×Nat×List Int) (fun x=>(x.1≤l.length∧x.2.1≤40∧x.2.2.1≤1000∧x.2.2.2.2.2.length≤x.1)∧(x.2.1=0→x.2.2.1=2)∧dF (l.take x.1)=0∧grF (l.drop x.1) x.2.1 x.2.2.1 x.2.2.2.2.2=r) (fun x=>[(12, .int .i64 (x.1:Int)),(4, .slice x.2.2.2.1 x.2.2.2.2.2.length x.2.2.2.2.1),(5, .int .i64 (x.2.1:Int)),(6, .int .i64 (x.2.2.1:Int))]) (fun x=>[own (.slice x.2.2.2.1 x.2.2.2.2.2.length x.2.2.2.2.1) 3 1 x.2.2.2.2.2.length (flat fI x.2.2.2.2.2)]) _ (fun x=>l.length-x.1) ((0,0,2,none,0,[])) (by exact⟨⟨fe _,by show 0≤40;decide,by show 2≤1000;decide,df _⟩,fun _=>rfl,rfl,hr⟩) Ze Zb (fun⟨k,n,sz,q2,c2,out⟩ ⟨⟨hk,hn,hsz,zt⟩,zu,hf,hg⟩=> ?_);refine Da ?_);dsimp only at hk hn hsz zt zu hf hg ⊢;rcases dW l k with⟨p,hp,hlt⟩|hge
 ·have CK:=OX p;have zr:l.drop k=p::l.drop (k+1):=by
   rw[bh hlt,(aj.1 hp).2]
  by_cases hz:eC p=0
  ·have hb:=mO hz;rw[hz] at CK;have SZ:=aDE p hb.2.2.2.2.2.2;have hob:=aqZ hb.2.2.2.2.2.2;have zx:=xI hp hf hz;rw[zr,grF] at hg;generalize (jW p).length=ol at*;by_cases zy:n=40∨1000<sz+ol
   ·rw[Jg zy] at hg;have zw:n≠0:=fun e=>by have:=zu e;omega
    by_cases zv:n=40
    ·(repeat' (first|refine Y3 ?_|(refine Wb ?_;intro b)|(refine Wq ?_;intro q)|refine Wc (CK ..) ?_|fail));refine aL wt rfl (by first|exact Ma (fI) [(n:Int)] rfl|exact Mb (fI) [(n:Int)] rfl) ?_;rintro _ _ ⟨q5,c5,rfl,rfl⟩;(repeat' (first|refine Y3 ?_|refine Wc (SZ ..) ?_|fail));refine Ee ((k+1,1,2+ol,q5,c5,out++[(n:Int)])) ?_ ?_
     ·exact⟨⟨hlt,by dsimp only;omega,by dsimp only;omega,by dsimp only;rw[ae,gk];omega⟩,fun h=>absurd h abg,zx,hg⟩
     ·dsimp only;omega
    ·have hbig:1000<sz+ol:=zy.resolve_left zv;(repeat' (first|refine Y3 ?_|(refine Wb ?_;intro b)|(refine Wq ?_;intro q)|refine Wc (CK ..) ?_|refine Wc (SZ ..) ?_|fail));refine aL wt rfl (by first|exact Ma (fI) [(n:Int)] rfl|exact Mb (fI) [(n:Int)] rfl) ?_;rintro _ _ ⟨q5,c5,rfl,rfl⟩;(repeat' (first|refine Y3 ?_|refine Wc (SZ ..) ?_|fail));refine Ee ((k+1,1,2+ol,q5,c5,out++[(n:Int)])) ?_ ?_
     ·exact⟨⟨hlt,by dsimp only;omega,by dsimp only;omega,by dsimp only;rw[ae,gk];omega⟩,fun h=>absurd h abg,zx,hg⟩
     ·dsimp only;omega
   ·rw[Jf zy] at hg;(repeat' (first|refine Y3 ?_|(refine Wb ?_;intro b)|refine Wc (CK ..) ?_|refine Wc (SZ ..) ?_|fail));refine Ee ((k+1,n+1,sz+ol,q2,c2,out)) ?_ ?_
    ·exact⟨⟨hlt,by dsimp only;omega,by dsimp only;omega,by dsimp only;omega⟩,fun h=>absurd h (Nat.succ_ne_zero n),zx,hg⟩
    ·dsimp only;omega
  ·rw[Jg (by rw[zE hp hf hz];exact hz),zE hp hf hz];(refine yY ?_;intro b);exact Ea (x:=⟨none,0,rfl,rfl⟩)
 ·have zq:k=l.length:=Z8
  subst zq;rw[mz] at hf;rw[Jf (by rw[hf];exact fun h=>h rfl)];rw[abc,grF] at hg;by_cases zw:0<n
  ·rw[Jg zw] at hg;subst hg;(refine mW ?_;intro q);refine aL wt rfl (by first|exact Ma (fI) [(n:Int)] rfl|exact Mb (fI) [(n:Int)] rfl) ?_;rintro _ _ ⟨q5,c5,rfl,rfl⟩;refine bM ?_;exact Ea (x:=⟨q5,c5,rfl,rfl⟩)
  ·rw[Jf zw] at hg;subst hg;refine bM ?_;exact Ea (x:=⟨q2,c2,rfl,rfl⟩)
end dZ
namespace bits
def tJ (l:List UInt8):Nat:=l.foldr (fun b r=>b.toNat+256*r) 0
theorem GC:tJ []=0:=rfl
theorem nP (b:UInt8) (l:List UInt8):tJ (b::l)=b.toNat+256*tJ l:=rfl
theorem SR (a b:List UInt8):tJ (a++b)=tJ a+256^a.length*tJ b:=by
 induction a with
 |nil=>simp [GC]
 |cons x a ih=>rw[dw,nP,nP,ih,dv,n8,aaz, ←aae,ij 256 (256^a.length)];omega
theorem aRB (l:List UInt8):tJ l<256^l.length:=by
 induction l with
 |nil=>simp [GC]
 |cons x l ih=>rw[nP,dv,n8];have:=x.toNat_lt;omega
structure iX (w:World) (B g:Nat) (sv:Value) (bs:List UInt8) (held n:Nat):Prop where
 hg:w.heap[g]? =some (.cells #[sv, .int .u64 (held:Int), .int .i64 (n:Int)] 425 (0,0))
 own:w.ownsRow B 5 1 sv bs.length (aZ bs)
 hB:B≤g
section
variable {w w':World} {B g:Nat} {sv:Value} {bs:List UInt8} {held n:Nat}
theorem iX.c0 (h:iX w B g sv bs held n):w.cell? ⟨g,0,none⟩=some sv:=by rw[cell_of_row _ _ _ _ _ _ h.hg];rfl
theorem iX.c1 (h:iX w B g sv bs held n):w.cell? ⟨g,1,none⟩=some (.int .u64 (held:Int)):=by rw[cell_of_row _ _ _ _ _ _ h.hg];rfl
theorem iX.c2 (h:iX w B g sv bs held n):w.cell? ⟨g,2,none⟩=some (.int .i64 (n:Int)):=by rw[cell_of_row _ _ _ _ _ _ h.hg];rfl
theorem iX.fr (h:iX w B g sv bs held n) (j:Nat):w.frozen? ⟨g,j,none⟩=false:=frozen_of_row _ _ j _ _ h.hg
theorem iX.lt (h:iX w B g sv bs held n):g<w.heap.size:=(dn.1 h.hg).1
theorem iX.ne (h:iX w B g sv bs held n):sv.ownBlock≠some g:=by
 intro e;rcases h.own.2 with⟨rfl,_⟩|⟨g',cap,cur,rfl,_,zy,_⟩
 ·simp [aai] at e
 ·simp [aai] at e;subst e;rw[h.hg] at zy;simp at zy
theorem xT (h:w.ownsRow B 5 1 sv bs.length (aZ bs)) (zy:sv.ownBlock≠some g) (j:Nat) (u:Value):(w.setCell ⟨g,j,none⟩ u).ownsRow B 5 1 sv bs.length (aZ bs):=by
 refine⟨h.1, ?_⟩;rcases h.2 with h2|⟨g',cap,cur,rfl,hb,zx,r⟩
 ·exact .inl h2
 ·refine .inr ⟨g',cap,cur,rfl,hb, ?_,r⟩;rw[heap_setCell_other _ _ _ _ (by simp [aai] at zy;simpa using zy)];exact zx
theorem iX.aUG (h:iX w B g sv bs held n) (zy:Nat):iX (w.setCell ⟨g,1,none⟩ (.int .u64 (zy:Int))) B g sv bs zy n:=
 ⟨by rw[heap_setCell_same _ _ _ _ _ _ h.hg];rfl,xT h.own h.ne _ _,h.hB⟩
theorem iX.aUH (h:iX w B g sv bs held n) (n':Nat):iX (w.setCell ⟨g,2,none⟩ (.int .i64 (n':Int))) B g sv bs held n':=
 ⟨by rw[heap_setCell_same _ _ _ _ _ _ h.hg];rfl,xT h.own h.ne _ _,h.hB⟩
theorem iX.aUI (h:iX w B g sv bs held n) {sv':Value} {bs':List UInt8} (zv:w.grownBy w' sv.ownBlock) (zy:w'.ownsRow B 5 1 sv' bs'.length (aZ bs')):iX (w'.setCell ⟨g,0,none⟩ sv') B g sv' bs' held n:=by
 have zx:w'.heap[g]? =some (.cells #[sv, .int .u64 (held:Int), .int .i64 (n:Int)] 425 (0,0)):=(zv.block g h.lt (fun e=>h.ne e.symm)).trans h.hg;have zu:sv'.ownBlock≠some g:=by
  intro e;rcases zy.2 with⟨rfl,_⟩|⟨g',cap,cur,rfl,_,zw,_⟩
  ·simp [aai] at e
  ·simp [aai] at e;subst e;rw[zx] at zw;simp at zw
 exact⟨by rw[heap_setCell_same _ _ _ _ _ _ zx];rfl,xT zy zu _ _,h.hB⟩
theorem iX.aDT (h:iX w B g sv bs held n) (zy:w.grownBy w' sv.ownBlock):w'.heap[g]? =some (.cells #[sv, .int .u64 (held:Int), .int .i64 (n:Int)] 425 (0,0)):=(zy.block g h.lt (fun e=>h.ne e.symm)).trans h.hg
theorem iX.gc (h:iX w B g sv bs held n) (zy:w.grownBy w' sv.ownBlock):w'.cell? ⟨g,0,none⟩=some sv:=by rw[cell_of_row _ _ _ _ _ _ (h.aDT zy)];rfl
theorem iX.gf (h:iX w B g sv bs held n) (zy:w.grownBy w' sv.ownBlock):w'.frozen? ⟨g,0,none⟩=false:=frozen_of_row _ _ 0 _ _ (h.aDT zy)
theorem iX.drew (h:iX w B g sv bs held n):iX w.drew B g sv bs held n:=⟨h.hg,h.own.drew,h.hB⟩
theorem iX.alloc (h:iX w B g sv bs held n) (o:Obj):iX (w.alloc o) B g sv bs held n:=⟨by rw[heap_alloc_old w o h.lt];exact h.hg,h.own.alloc o,h.hB⟩
end
def nOf (w:World) (g:Nat):Nat:=(intOf ((w.cell? ⟨g,2,none⟩).getD undef)).toNat
def aUJ (bs:List UInt8) (held n v w:Nat) (bs':List UInt8) (zy n':Nat):Prop:=
 n'<8∧zy<2^n'∧tJ bs'+zy*256^bs'.length=tJ bs+held*256^bs.length+v*2^(8*bs.length+n)∧8*bs'.length+n'=8*bs.length+n+w
theorem aDU (held n v:Nat) (hn:n<8) (hh:held<2^n) (hv:v<4294967296):bits BinOp.or jz (held:Int) (jz.wrap ((v:Int)*2^n))=((held+v*2^n:Nat):Int):=by
 have h1:(2:Nat)^n≤2^7:=mr Z9 Z8;have h2:v*2^n≤v*2^7:=aat _ h1;have e:jz.wrap ((v:Int)*2^n)=((v*2^n:Nat):Int):=by
  rw[aad,show ((v:Int)*2^n)=((v*2^n:Nat):Int) from by simp];omega
 rw[e,u64_or_nat _ _ Z8 Z8];congr 1;rw[aam,nat_join n (v*2^n) held (aap _ _) hh];omega
def GD (v wd held n B g:Nat) (sv:Value) (bs:List UInt8) (W:World):Prop:=
  Calls lk 341 #[.pointer (some ⟨g,0,none⟩), .int .u64 (v:Int), .int .i64 (wd:Int)] W fun e w'=>e= .returned (.tuple #[])∧Below B W w'∧ ∃ sv' bs' zy n',iX w' B g sv' bs' zy n'∧aUJ bs held n v wd bs' zy n'
theorem aUK (v:Nat) (hv:v<18446744073709551616):bits BinOp.and jz (v:Int) 4294967295=((v%4294967296:Nat):Int):=by
 rw[show (4294967295:Int)=((2^32-1:Nat):Int) from rfl,u64_and_nat _ _ hv Z9,aal]
theorem arE (v0 wd0 held0 n0 B g:Nat) (sv0:Value) (bs0:List UInt8) (W0:World) (hs0:iX W0 B g sv0 bs0 held0 n0) (hn0:n0<8) (hh0:held0<2^n0) (hw0:wd0≤64) (hv0:v0<2^wd0) (L:Nat) (hL:L≤999950) (hlen0:bs0.length≤L)
  (hrec:32<wd0→ ∀ (v held n:Nat) (sv:Value) (bs:List UInt8) (W:World),iX W B g sv bs held n→n<8→held<2^n→v<2^32→bs.length≤L+10→GD v 32 held n B g sv bs W):
  GD v0 wd0 held0 n0 B g sv0 bs0 W0:=by
 unfold GD;have HR:=Lib.hid hrec;clear hrec;have HV0:=Lib.hid hv0;have HH0:=Lib.hid hh0;obtain⟨CT,hCT⟩: ∃ CT,CT=tJ bs0+held0*256^bs0.length+v0*2^(8*bs0.length+n0):=⟨_,rfl⟩;have HCT:=Lib.hid hCT;clear hv0 hh0 hCT
 go_enter Tryz.func341,Tryz.ntmps341
 go_wp2_with (fail)
 go_loopw [1, 2] (fun x y wr => ∃ v wd sv bs held n, x = .int .u64 ((v : Nat) : Int) ∧ y = .int .i64 ((wd : Nat) : Int) ∧ wd ≤ wd0 ∧ Hid (v < 2 ^ wd) ∧ iX wr B g sv bs held n ∧ n < 8 ∧ Hid (held < 2 ^ n) ∧
   Hid (tJ bs + held * 256 ^ bs.length + v * 2 ^ (8 * bs.length + n) = CT) ∧ 8 * bs.length + n + wd = 8 * bs0.length + n0 + wd0 ∧ Below B W0 wr) (fun _ y _ => (intOf y).toNat)
 case atStart=>exact⟨v0,wd0,sv0,bs0,held0,n0,rfl,rfl,df _,HV0,hs0,hn0,HH0,HCT.out.symm,rfl,Below.refl _ _⟩
 case round=>
 clear hs0;obtain⟨v,wd,sv,bs,held,n,rfl,rfl,hwd,HV,hs,hn,HH,HC0,hTT,hb0⟩:=hrel;by_cases hw:32<wd
 ·have hwI:(32:Int)<(wd:Int):=Z8
  have hv64:v<18446744073709551616:=di HV.out (mr (n:=2) Z9 (show wd≤64 by omega));have hl32:=aUK v hv64;obtain⟨lo,hlo⟩: ∃ lo,lo=v%4294967296:=⟨_,rfl⟩;rw[←hlo] at hl32;have hlo2:lo<2^32:=by rw[hlo];exact jf _ Z9
  have HL:=Lib.hid hlo;have HL2:=Lib.hid hlo2;clear hlo hlo2
  go_wp2_with (fail)
  refine (HR.out Z8 lo held n sv bs _ hs hn HH.out HL2.out Z8 ).mono ?_;rintro e w1 ⟨rfl,hb1,sv1,bs1,held1,n1,hs1,hn1,hh1,hN1,hT1⟩;have HN1:=Lib.hid hN1;have HH1:=Lib.hid hh1;have hbz:=hb0.trans hb1;clear hN1 hh1 hs hb1 hb0
  go_wp2_with (fail)
  go_roundw
  case rel=>
   refine⟨v/4294967296,wd-32,sv1,bs1,held1,n1,nJ Z8,nJ Z8,Z8, ?_,hs1,hn1,HH1, ?_,Z8,hbz⟩
   ·show v/4294967296<2^(wd-32);have:=HV.out;rw[show wd=32+(wd-32) from by omega,aac] at this;exact aak this
   ·show _=CT;rw[HN1.out, ←HC0.out,HL.out,show 8*bs1.length+n1=8*bs.length+n+32 from by omega,aac 2 (8*bs.length+n) 32];have e:v=v%4294967296+4294967296*(v/4294967296):=Z8
    have e2:v%4294967296*2^(8*bs.length+n)+v/4294967296*(2^(8*bs.length+n)*2^32)=v*2^(8*bs.length+n):=by
     rw[ij (2^(8*bs.length+n)) (2^32), ←aae, ←ff];congr 1;omega
    rw[b9 (tJ bs+held*256^bs.length),e2]
  case measure=>simp [intOf];omega
 ·have hv64:True:=trivial;have hv32:v<4294967296:=di HV.out (mr (n:=2) Z9 (show wd≤32 by omega));have hor:=aDU held n v hn HH.out hv32;obtain⟨X,hX⟩: ∃ X,X=held+v*2^n:=⟨_,rfl⟩;rw[←hX] at hor;have HOR:=Lib.hid hor;have HX:=Lib.hid hX;clear hor hX;have hwI:(wd:Int)≤32:=Z8
  have c0:=hs.c0;have c1:=hs.c1;have c2:=hs.c2;have f1:=hs.fr 1;have hnI:(n:Int)<8:=Z8
  have hlt:=hs.lt;have hlen:bs.length≤1000000:=Z8
  go_wp2_with (fail)
  go_region
  rw[HOR.out];have hs1:=(hs.aUG X).drew;have hb1:Below B W0 (wr.setCell ⟨g,1,none⟩ (.int .u64 (X:Int))).drew:=(hb0.setCell (p:=⟨g,1,none⟩) hs.hB _).drew;generalize (wr.setCell ⟨g,1,none⟩ (.int .u64 (X:Int))).drew=W1 at hs1 hb1 ⊢;clear c0 c1 c2 f1;have c0:=hs1.c0;have c1:=hs1.c1;have c2:=hs1.c2;have f2:=hs1.fr 2
  go_wp2_with (fail)
  have e2:(n:Int)+(wd:Int)=((n+wd:Nat):Int):=Z8
  have hs2:=hs1.aUH (n+wd);rw[←e2] at hs2;have hb2:=hb1.setCell (p:=⟨g,2,none⟩) hs1.hB (.int .i64 ((n:Int)+(wd:Int)));generalize W1.setCell ⟨g,2,none⟩ (.int .i64 ((n:Int)+(wd:Int)))=W2 at hs2 hb2 ⊢;have hT:X<2^(n+wd):=by
   have hh:=HH.out;rw[HX.out,aac,ij (2^n)];have:(v+1)*2^n≤2^wd*2^n:=cr _ HV.out;rw[jn] at this;omega
  have hN0:tJ bs+X*256^bs.length=tJ bs+held*256^bs.length+v*2^(8*bs.length+n):=by
   rw[HX.out,ff,show (256:Nat)=2^8 from rfl, ←abk,aae, ←aac,aao n];omega
  clear c0 c1 c2 f2 e2;obtain⟨C,hC⟩: ∃ C,C=tJ bs+held*256^bs.length+v*2^(8*bs.length+n):=⟨_,rfl⟩;rw[←hC] at hN0;have HC:=Lib.hid hC;have HN:=Lib.hid hN0;have HT:=Lib.hid hT;clear hC hN0 hT
  go_loopw [37] (fun _ wr=> ∃ sv' bs' held' n',iX wr B g sv' bs' held' n'∧Hid (held'<2^n')∧n'≤47∧Hid (tJ bs'+held'*256^bs'.length=C)∧8*bs'.length+n'=8*bs.length+n+wd∧Below B W0 wr) (fun _ wr=>nOf wr g)
  case atStart=>exact⟨sv,bs,_,n+wd,by simpa using hs2,HT,Z8,HN,Z8,hb2⟩
  case round=>
   clear hs hs1 hb1 hs2 hb2 HT HN;obtain⟨sv',bs',held',n',hs,hh',hn47,hN,hT,hb⟩:=hrel;have c0:=hs.c0;have c1:=hs.c1;have c2:=hs.c2;have f0:=hs.fr 0;have hnOld:wr.cell? ⟨g,2,none⟩=some (.int .i64 (n':Int)):=c2;by_cases h8:8≤n'
   ·have h8I:(8:Int)≤(n':Int):=Z8
    have hne:=hs.ne;have hlen':bs'.length≤2000000:=Z8
    have h63:bs'.length+1≤maxLen:=by unfold maxLen;omega
    have hsz:B≤wr.heap.size:=abh (aau hs.hB hs.lt)
    go_wp2_with (fail)
    have hglt:=hs.lt
    go_region_law (refine QB put.tD Jb _ _ Jb sv' (gh .u8 (kz.wrap (held':Int))) bs'.length (aZ bs') Jb ⟨wr.heap.size,0,none⟩ Jb Ja ((hs.own.alloc _).drew) Jb Z8 h63 ((hb.alloc hsz _).drew) (gm hsz Ja) ?_;intro gv capv w1 hown1 hgr1 hbel1 _ _;have hs3:=(hs.alloc (Obj.cells #[gh .u8 (kz.wrap (held':Int))] 5)).drew;have cz:=hs3.gc hgr1;have fz:=hs3.gf hgr1)
    all_goals
     have hb8:kz.wrap (held':Int)=((ky (held'%256)).toNat:Int):=by rw[abd];simp
     rw[fV bs' (ky (held'%256)) _ hb8] at hown1;have hs4:=hs3.aUI hgr1 (bs':=bs'++[ky (held'%256)]) (by simpa using hown1);have hb4:=hbel1.setCell (p:=⟨g,0,none⟩) hs.hB (.slice (some ⟨gv,0,none⟩) (bs'.length+1) capv);generalize w1.setCell ⟨g,0,none⟩ (.slice (some ⟨gv,0,none⟩) (bs'.length+1) capv)=w2 at hs4 hb4 ⊢;clear c0 c1 c2 f0 hown1 hgr1 hs3 cz fz hb8 hbel1 hs;have c1:=hs4.c1;have f1:=hs4.fr 1
     go_upto_region 9 with (fail)
     have e1:(held':Int)/256=((held'/256:Nat):Int):=Z8
     have hs5:=hs4.aUG (held'/256);rw[←e1] at hs5;have hb5:=hb4.setCell (p:=⟨g,1,none⟩) hs4.hB (.int .u64 ((held':Int)/256));generalize w2.setCell ⟨g,1,none⟩ (.int .u64 ((held':Int)/256))=w3 at hs5 hb5 ⊢;clear c1 f1 hs4 hb4 e1;have c2:=hs5.c2;have f2:=hs5.fr 2;have e3:(n':Int)-8=((n'-8:Nat):Int):=Z8
     have hs6:=hs5.aUH (n'-8);rw[←e3] at hs6;have hb6:=hb5.setCell (p:=⟨g,2,none⟩) hs5.hB (.int .i64 ((n':Int)-8));have hno:nOf (w3.setCell ⟨g,2,none⟩ (.int .i64 ((n':Int)-8))) g=n'-8:=by rw[nOf,hs6.c2];simp [intOf]
     have HS6:=Lib.hid hs6;have HB6:=Lib.hid hb6;have HNO:=Lib.hid hno;clear hs6 hb6 hno e3
     go_wp2_with (fail)
     go_roundw
     case rel=>
      have hh2:held'/256<2^(n'-8):=by
       have:=hh'.out;rw[show n'=(n'-8)+8 from by omega,aac] at this;exact aak (by rw[ij];exact this)
      refine⟨_,bs'++[ky (held'%256)],held'/256,n'-8,by simpa using HS6.out,hh2,Z8, ?_,by simp;omega,HB6.out⟩;show _=_;rw[←hN.out,SR,ae,gk,n8,nP,GC];have e:(ky (held'%256)).toNat=held'%256:=Ja
      rw[e,aav,fl,b9,ij (256^bs'.length) (held'%256),ij (256^bs'.length) 256, ←aae, ←ff];congr 2;omega
     case measure=>
      show nOf _ g<nOf _ g;rw[HNO.out,nOf,hnOld];simp [intOf];omega
   ·have hend:n'<8:=Z8
    go_wp2_with (fail)
    go_end0
    refine⟨rfl,hb,sv',bs',held',n',hs,hend,hh'.out, ?_,Z8⟩;rw[hN.out,HC.out,HC0.out,HCT.out]
theorem aUL (v held n B g:Nat) (sv:Value) (bs:List UInt8) (W:World) (hs:iX W B g sv bs held n) (hn:n<8) (hh:held<2^n) (hv:v<2^32) (hlen:bs.length≤999010):GD v 32 held n B g sv bs W:=
 arE v 32 held n B g sv bs W hs hn hh Z9 hv 999010 Z9 hlen (fun h=>absurd h Z9)
theorem oX (v wd held n B g:Nat) (sv:Value) (bs:List UInt8) (W:World) (hs:iX W B g sv bs held n) (hn:n<8) (hh:held<2^n) (hw:wd≤64) (hv:v<2^wd) (hlen:bs.length≤999000):GD v wd held n B g sv bs W:=
 arE v wd held n B g sv bs W hs hn hh hw hv 999000 Z9 hlen (fun _ v held n sv bs W hs hn hh hv hl=>aUL v held n B g sv bs W hs hn hh hv hl)
end bits
namespace bits
def avR (bs:List UInt8) (held n:Nat):List UInt8:=if n=0 then bs else bs++[ky held]
theorem arF (held n B g:Nat) (sv:Value) (bs:List UInt8) (W:World) (hs:iX W B g sv bs held n) (hn:n<8) (hh:held<2^n) (hlen:bs.length≤2000000):
  Calls lk 342 #[.pointer (some ⟨g,0,none⟩)] W fun e w'=>e= .returned (.string ⟨(avR bs held n).toArray⟩)∧Below B W w':=by
 have c0:=hs.c0;have c1:=hs.c1;have c2:=hs.c2;have f0:=hs.fr 0;have hlt:=hs.lt;have hh256:held<256:=di hh (mr (n:=2) Z9 (by omega:n≤8));have HH:=Lib.hid hh;clear hh;by_cases h0:n=0
 ·have H0:=Lib.hid h0;have hI: ¬ (0:Int)<(n:Int):=Z8
  have hconv:=lY (src:=292) (dst:=9) Tryz.underlying292 Tryz.underlying5 Tryz.underlying9 hs.own;clear h0
  go_enter Tryz.func342,Tryz.ntmps342
  go_wp2_with (fail)
  go_ret
  exact⟨by rw[avR,Jg H0.out];rfl,Below.refl _ _⟩
 ·have H0:=Lib.hid h0;have hI:(0:Int)<(n:Int):=Z8
  have h63:bs.length+1≤maxLen:=by unfold maxLen;omega
  have hsz:B≤W.heap.size:=abh (aau hs.hB hs.lt);clear h0
  go_enter Tryz.func342,Tryz.ntmps342
  go_upto_region 2 with (fail)
  go_region_law (refine QB put.tD Jb _ _ Jb sv (gh .u8 (kz.wrap (held:Int))) bs.length (aZ bs) Jb ⟨W.heap.size,0,none⟩ Jb Ja ((hs.own.alloc _).drew) Jb Z8 h63 ((((Below.refl B W)).alloc hsz _).drew) (gm hsz Ja) ?_;intro gv capv w1 hown1 hgr1 hbel1 _ _;have hs3:=(hs.alloc (Obj.cells #[gh .u8 (kz.wrap (held:Int))] 5)).drew;have cz:=hs3.gc hgr1;have fz:=hs3.gf hgr1)
  all_goals
   have hb8:kz.wrap (held:Int)=((ky held).toNat:Int):=by rw[abd];simp
   rw[fV bs (ky held) _ hb8] at hown1;have hs4:=hs3.aUI hgr1 (bs':=bs++[ky held]) (by simpa using hown1);have hb4:=hbel1.setCell (p:=⟨g,0,none⟩) hs.hB (.slice (some ⟨gv,0,none⟩) (bs.length+1) capv);generalize w1.setCell ⟨g,0,none⟩ (.slice (some ⟨gv,0,none⟩) (bs.length+1) capv)=w2 at hs4 hb4 ⊢;clear c0 c1 c2 f0 hown1 hgr1 hs3 cz fz hb8 hbel1 hs;have c0:=hs4.c0;have hconv:=lY (src:=292) (dst:=9) Tryz.underlying292 Tryz.underlying5 Tryz.underlying9 hs4.own
   go_wp2_with (fail)
   go_ret
   exact⟨by rw[avR,Jf H0.out];rfl,hb4⟩
def jL (p:Int×Int):Nat:=if p.2<0∨64<p.2 then 1 else if p.1<2^p.2.toNat then 0 else 2
def dJ:List (Int×Int)→Nat
 |[]=>0
 |p::l=>if jL p=0 then dJ l else jL p
def total:List (Int×Int)→Nat
 |[]=>0
 |p::l=>p.2.toNat+total l
def mH:List (Int×Int)→Nat
 |[]=>0
 |p::l=>p.1.toNat+2^p.2.toNat*mH l
def toLE:Nat→Nat→List UInt8
 |_,0=>[]
 |N,n+1=>ky (N%256)::toLE (N/256) n
def kV (l:List (Int×Int)):Nat:=if dJ l≠0 then dJ l else if 65536<total l then 2 else 0
def jS (l:List (Int×Int)):List UInt8:=toLE (mH l) ((total l+7)/8)
theorem aiC (N n:Nat):(toLE N n).length=n:=by
 induction n generalizing N with
 |zero=>rfl
 |succ n ih=>simp [toLE,ih]
theorem aDV (N n:Nat):tJ (toLE N n)=N%256^n:=by
 induction n generalizing N with
 |zero=>simp [toLE,GC,aax]
 |succ n ih=>
  rw[toLE,nP,ih,n8,ij (256^n) 256,aay];simp
theorem aiD (l:List UInt8):toLE (tJ l) l.length=l:=by
 induction l with
 |nil=>rfl
 |cons b l ih=>
  have hb:=b.toNat_lt;rw[dv,toLE,nP,show (b.toNat+256*tJ l)/256=tJ l from by omega,ih,show (b.toNat+256*tJ l)%256=b.toNat from by omega];simp
theorem GF (a b:List (Int×Int)):dJ (a++b)=if dJ a=0 then dJ b else dJ a:=by
 induction a with
 |nil=>simp [dJ]
 |cons p a ih=>
  rw[dw,dJ,dJ];by_cases h:jL p=0
  ·rw[Jg h,Jg h,ih]
  ·rw[Jf h,Jf h,Jf h]
theorem aaO (a b:List (Int×Int)):total (a++b)=total a+total b:=by
 induction a with
 |nil=>simp [total]
 |cons p a ih=>rw[dw,total,total,ih];omega
theorem avS (a b:List (Int×Int)):mH (a++b)=mH a+2^total a*mH b:=by
 induction a with
 |nil=>simp [mH,total]
 |cons p a ih=>rw[dw,mH,mH,total,ih,aaz,aac,aae];omega
theorem aDW (l:List (Int×Int)) (hp: ∀ p∈l,0≤p.1) (h:dJ l=0):mH l<2^total l:=by
 induction l with
 |nil=>simp [mH,total]
 |cons p l ih=>
  unfold dJ at h;split at h
  ·rename_i h0;have hi:=ih (fun q hq=>hp q (by simp [hq])) h;have hp1:p.1.toNat<2^p.2.toNat:=by
    unfold jL at h0;split at h0
    ·omega
    ·split at h0
     ·rename_i h2;have:=hp p Ja;have e:((2:Int)^p.2.toNat)=((2^p.2.toNat:Nat):Int):=Ja
      rw[e] at h2;omega
     ·omega
   rw[mH,total,aac];have:2^p.2.toNat*(mH l+1)≤2^p.2.toNat*2^total l:=aat _ hi;rw[aaz,Nat.mul_one] at this;omega
  ·rename_i h0;exact absurd h h0
def auU (p:Int×Int):List Value:=[gh .u64 p.1,gh .i64 p.2]
theorem CG {xs:List (Int×Int)} {k:Nat} {p:Int×Int} (hp:xs[k]? =some p) (h0:dJ (xs.take k)=0) {e:Nat} (he:jL p=e) (hn:e≠0):kV xs=e:=by
 have e1:xs=xs.take k++(p::xs.drop (k+1)):=by
  conv=>lhs;rw[←gl k xs]
  rw[bh (aj.1 hp).1,(aj.1 hp).2]
 have:dJ xs=e:=by
  rw[e1,GF,Jg h0,dJ,Jf (by rw[he];exact hn),he]
 rw[kV,Jg (by rw[this];exact hn),this]
theorem AW {xs:List (Int×Int)} {k:Nat} {p:Int×Int} (hp:xs[k]? =some p) (h0:dJ (xs.take k)=0) (he:jL p=0):dJ (xs.take (k+1))=0:=by
 rw[take_one hp,GF,Jg h0,dJ,Jg he];rfl
theorem SU {xs:List (Int×Int)} {k:Nat} {p:Int×Int} (hp:xs[k]? =some p):total (xs.take (k+1))=total (xs.take k)+p.2.toNat:=by
 rw[take_one hp,aaO];rfl
theorem amW {xs:List (Int×Int)} {k:Nat} {p:Int×Int} (hp:xs[k]? =some p):mH (xs.take (k+1))=mH (xs.take k)+p.1.toNat*2^total (xs.take k):=by
 rw[take_one hp,avS,mH,mH,aav,fl,ij]
theorem sV (v w:Nat) (hw:w≤64):jL ((v:Int),(w:Int))=if v<2^w then 0 else 2:=by
 have e:((2:Int)^w)=((2^w:Nat):Int):=Ja
 unfold jL;rw[Jf (by simp only;omega)];simp only[dc,e,abi]
theorem xU (v w:Int) (h:w<0∨64<w):jL (v,w)=1:=by
 unfold jL;rw[Jg h]
theorem AX (l:List (Int×Int)) (k:Nat):total (l.take k)≤total l:=by
 conv=>rhs;rw[←gl k l]
 rw[aaO];omega
theorem adE {l:List (Int×Int)} (h:dJ l=0) {p:Int×Int} (hp:p∈l):jL p=0:=by
 induction l with
 |nil=>cases hp
 |cons q l ih=>
  unfold dJ at h;split at h
  ·rename_i h0;rcases al.1 hp with rfl|hp
   ·exact h0
   ·exact ih h hp
  ·rename_i h0;exact absurd h h0
theorem aiE {v:Nat} {w:Int} (h:jL ((v:Int),w)=0): ∃ n:Nat,w=(n:Int)∧n≤64∧v<2^n:=by
 unfold jL at h;split at h
 ·omega
 ·rename_i h1;refine⟨w.toNat, ?_, ?_, ?_⟩
  ·simp only at h1;omega
  ·simp only at h1;omega
  ·split at h
   ·rename_i h2;have e:((2:Int)^w.toNat)=((2^w.toNat:Nat):Int):=Ja
    simp only[e,abi] at h2;exact h2
   ·omega
theorem avT {xs:List (Int×Int)} {bs:List UInt8} {held n:Nat} (hn:n<8) (hh:held<2^n) (h1:tJ bs+held*256^bs.length=mH xs) (h2:8*bs.length+n=total xs):avR bs held n=jS xs:=by
 have hh256:held<256:=di hh (mr (n:=2) Z9 (by omega:n≤8));unfold jS avR;rw[←h2, ←h1];split
 ·rename_i h0;subst h0;have:held=0:=by simpa using hh
  subst this;rw[show (8*bs.length+0+7)/8=bs.length from by omega,Nat.zero_mul,fl,aiD]
 ·have e:tJ (bs++[ky held])=tJ bs+held*256^bs.length:=by
   rw[SR,nP,GC];rw[show (ky held).toNat=held from by simp;omega,ij];simp
  rw[←e,show (8*bs.length+n+7)/8=(bs++[ky held]).length from by simp;omega,aiD]
def NB (l:List (Int×Int)):ByteArray:=if kV l=0 then ⟨(jS l).toArray⟩ else ⟨#[]⟩
theorem aDX (v:Value) (xs:List (Int×Int)) (W:World) (hs:bX W 2 v (xs.map auU)) (hg: ∀ p∈xs,(kg .u64 p.1).wf=true∧(kg .i64 p.2).wf=true) (hn:xs.length≤100000000000000000):
  Calls lk 308 #[v] W fun e w'=>e= .returned (.tuple #[.string (NB xs), .int .i64 (kV xs:Int)])∧Below W.heap.size W w':=by
 rcases hs with⟨h0,hv⟩|⟨b,off,cap,rfl,hcap,hmax,hpos,hblk,hrows⟩
 ·obtain rfl:xs=[]:=by simpa using h0
  obtain⟨q,cap,rfl⟩: ∃ q cap,v= .slice q 0 cap:=by
   rcases hv with rfl|⟨a,cap,rfl⟩
   ·exact⟨_,_,rfl⟩
   ·exact⟨_,_,rfl⟩
  clear hg hn h0 hv
  go_enter Tryz.func308,Tryz.ntmps308
  go_wp2_with (fail)
  go_loopw [4,12] (fun x y wr=>x= .int .i64 0∧y= .int .i64 0∧wr=W) (fun _ _ _=>0)
  case atStart=>exact⟨rfl,rfl,rfl⟩
  case round=>
   obtain⟨rfl,rfl,rfl⟩:=hrel
   go_wp2_with (fail)
   have hsk:iX (wr.alloc (Obj.cells #[jw none 0 0,gh jz 0,gh kx 0] 425)) wr.heap.size wr.heap.size (.slice none 0 0) [] 0 0:=
    ⟨heap_alloc_new _ _,aan _ _ _ _,df _⟩
   have hb2:=(Below.refl wr.heap.size wr).alloc (df _) (Obj.cells #[jw none 0 0,gh jz 0,gh kx 0] 425);generalize wr.alloc (Obj.cells #[jw none 0 0,gh jz 0,gh kx 0] 425)=W2 at hsk hb2 ⊢;generalize hG:wr.heap.size=G at hsk hb2 ⊢
   replace hG:=Lib.hid hG
   go_loopw [44] (fun y ws=>y= .int .i64 0∧ws=W2) (fun _ _=>0)
   case atStart=>exact⟨rfl,rfl⟩
   case round=>
    obtain⟨rfl,rfl⟩:=hrel
    go_wp2_with (fail)
    refine (arF 0 0 _ G _ [] _ hsk Z9 Z9 Z9).mono ?_;rintro e w' ⟨rfl,hb'⟩;have hb3:=hb2.trans hb'
    go_wp2_with (fail)
    go_ret2
    exact⟨rfl,by rw[hG.out];exact hb3⟩
 ·have hlen:(xs.map auU).length=xs.length:=Ja
  rw[hlen] at hcap hpos ⊢;have hcell: ∀ i p,xs[i]? =some p→W.cell? ⟨b,off+i*2,none⟩=some (.int .u64 p.1)∧W.cell? ⟨b,off+i*2+1,none⟩=some (.int .i64 p.2):=by
   intro i p hp;have h:=(hrows i (auU p) (by rw[List.getElem?_map,hp];rfl)).2;exact⟨h 0 _ rfl,h 1 _ rfl⟩
  have HC:=Lib.hid hcell;clear hrows hcell hlen
  go_enter Tryz.func308,Tryz.ntmps308
  go_wp2_with (fail)
  go_loopw [4,12] (fun x y wr=> ∃ k:Nat,k≤xs.length∧x= .int .i64 (total (xs.take k):Int)∧y= .int .i64 k∧Hid (dJ (xs.take k)=0)∧total (xs.take k)≤64*k∧Below W.heap.size W wr) (fun _ y _=>xs.length-(intOf y).toNat)
  case atStart=>exact⟨0,fe _,rfl,rfl,rfl,by simp [total],Below.refl _ _⟩
  case round=>
   obtain⟨k,hk,rfl,rfl,hfe,htot,hb⟩:=hrel;by_cases hlt:k<xs.length
   ·obtain⟨⟨p1,p2⟩,hp⟩: ∃ p,xs[k]? =some p:=⟨_,ak hlt⟩;have hc:=HC.out k _ hp;have hc0:wr.cell? ⟨b,off+k*2,none⟩=some (.int .u64 p1):=(hb.cell (p:=⟨b,off+k*2,none⟩) hblk).trans hc.1;have hc1:wr.cell? ⟨b,off+k*2+1,none⟩=some (.int .i64 p2):=(hb.cell (p:=⟨b,off+k*2+1,none⟩) hblk).trans hc.2;have hltI:(k:Int)<(xs.length:Int):=Z8
    have hw:=hg _ (jg hp);obtain⟨v,rfl,hv⟩:=apS hw.1;have hp2:=IV hw.2;have HP:=Lib.hid hp;clear hc hp hw;have hsz:W.heap.size≤wr.heap.size:=hb.size;by_cases hneg:p2<0
    ·have hE:kV xs=1:=CG HP.out hfe.out (xU _ _ (.inl hneg)) Z9
     go_wp2_with (fail)
     go_ret2
     exact⟨by rw[NB,Jf Zt];rfl,hb.alloc hsz _⟩
    ·by_cases hbig:64<p2
     ·have hE:kV xs=1:=CG HP.out hfe.out (xU _ _ (.inr hbig)) Z9
      go_wp2_with (fail)
      go_ret2
      exact⟨by rw[NB,Jf Zt];rfl,hb.alloc hsz _⟩
     ·obtain⟨w,rfl⟩: ∃ w:Nat,p2=(w:Int):=⟨p2.toNat,Z8⟩;have hw:w≤64:=Z8
      have e2:((2:Int)^w)=((2^w:Nat):Int):=Ja
      have ht:=SU HP.out;simp only[dc] at ht;have HT:=Lib.hid ht;have hto:total (xs.take (k+1))≤64*(k+1):=Z8
      clear ht;by_cases h64:(w:Int)<64
      ·by_cases hq:((v:Int)/2^w !=0)=true
       ·have hE : kV xs = 2 := CG HP.out hfe.out (by
         rw [sV v w hw, Jf];intro hlt;rw [e2, show (v : Int) / ((2 ^ w : Nat) : Int) = ((v / 2 ^ w : Nat) : Int) from rfl, abb hlt] at hq;simp at hq) Z9
        clear e2 HT
        go_wp2_with (fail)
        go_ret2
        exact⟨by rw[NB,Jf Zt];rfl,hb.alloc hsz _⟩
       ·have hE := Lib.hid (AW HP.out hfe.out (by
         rw[sV v w hw,Jg];simp at hq;rw[e2,show (v:Int)/((2^w:Nat):Int)=((v/2^w:Nat):Int) from rfl] at hq;rcases (Nat.div_eq_zero_iff.1 (by exact_mod_cast hq):2^w=0∨v<2^w) with h|h
         ·have:=aaf w;omega
         ·exact h))
        have hq2:((v:Int)/2^w !=0)=false:=by simpa using hq
        clear e2 hq
        go_wp2_with (fail)
        exact⟨⟨k+1,Z8,by rw[HT.out];simp,rfl,hE,hto,hb.alloc hsz _⟩,by show xs.length-(((k:Int)+1).toNat)<xs.length-((k:Int).toNat);omega⟩
      ·have:w=64:=Z8
       subst this;have hE:=Lib.hid (AW HP.out hfe.out (by rw[sV v 64 hw,Jg Z8]));clear e2
       go_wp2_with (fail)
       exact⟨⟨k+1,Z8,by rw[HT.out];simp,rfl,hE,hto,hb.alloc hsz _⟩,by show xs.length-(((k:Int)+1).toNat)<xs.length-((k:Int).toNat);omega⟩
   ·have hke:k=xs.length:=Z8
    subst hke;rw[mz] at hfe htot ⊢;by_cases hT:(65536:Int)<(total xs:Int)
    ·have hE:kV xs=2:=by unfold kV;rw[hfe.out,Jf Ja,Jg Z8]
     go_wp2_with (fail)
     go_ret2
     exact⟨by rw[NB,Jf Zt,hE];rfl,hb⟩
    ·have hE:kV xs=0:=by unfold kV;rw[hfe.out,Jf Ja,Jf Z8]
     have HE:=Lib.hid hE;have hT2:total xs≤65536:=Z8
     have hsz:W.heap.size≤wr.heap.size:=hb.size;clear hE
     go_wp2_with (fail)
     have hsk:iX (wr.alloc (Obj.cells #[jw none 0 0,gh jz 0,gh kx 0] 425)) W.heap.size wr.heap.size (.slice none 0 0) [] 0 0:=
      ⟨heap_alloc_new _ _,aan _ _ _ _,hsz⟩
     have hb2:=hb.alloc hsz (Obj.cells #[jw none 0 0,gh jz 0,gh kx 0] 425);generalize wr.alloc (Obj.cells #[jw none 0 0,gh jz 0,gh kx 0] 425)=W2 at hsk hb2 ⊢;generalize wr.heap.size=G at hsk ⊢;clear hb hsz hlt hT
     go_loopw [44] (fun y ws=> ∃ k:Nat, ∃ sv bs held n,k≤xs.length∧y= .int .i64 k∧iX ws W.heap.size G sv bs held n∧n<8∧held<2^n∧Hid (tJ bs+held*256^bs.length=mH (xs.take k))∧Hid (8*bs.length+n=total (xs.take k))∧Below W.heap.size W ws) (fun y _=>xs.length-(intOf y).toNat)
     case atStart=>exact⟨0,_,[],0,0,fe _,rfl,hsk,Z9,Z9,rfl,rfl,hb2⟩
     case round=>
      obtain⟨k,sv,bs,held,n,hk,rfl,hs,hn8,hh,hN,hL,hb⟩:=hrel;by_cases hlt:k<xs.length
      ·obtain⟨⟨p1,p2⟩,hp⟩: ∃ p,xs[k]? =some p:=⟨_,ak hlt⟩;have hc:=HC.out k _ hp;have hw:=hg _ (jg hp);obtain⟨v,rfl,hv⟩:=apS hw.1;obtain⟨w,rfl,hw64,hvw⟩:=aiE (adE hfe.out (jg hp));have hc0:wr.cell? ⟨b,off+k*2,none⟩=some (.int .u64 v):=(hb.cell (p:=⟨b,off+k*2,none⟩) hblk).trans hc.1;have hc1:wr.cell? ⟨b,off+k*2+1,none⟩=some (.int .i64 w):=(hb.cell (p:=⟨b,off+k*2+1,none⟩) hblk).trans hc.2;have hltI:(k:Int)<(xs.length:Int):=Z8
       have HP:=Lib.hid hp;have hsz:W.heap.size≤wr.heap.size:=hb.size;have HV:=Lib.hid hvw;have HH:=Lib.hid hh;clear hc hp hw hvw hh;have hbl:bs.length≤999000:=by have:=hL.out;have:=AX xs k;omega
       go_wp2_with (fail)
       refine (oX v w held n _ G sv bs _ (hs.alloc _) hn8 HH.out hw64 HV.out hbl).mono ?_;rintro e w' ⟨rfl,hb',sv',bs',held',n',hs',hn',hh',hN',hL'⟩;have hb3:=(hb.alloc hsz (Obj.cells #[gh .u64 (v:Int),gh .i64 (w:Int)] 394)).trans hb';have HN:=Lib.hid (hN'.trans (show tJ bs+held*256^bs.length+v*2^(8*bs.length+n)=mH (xs.take (k+1)) from by rw[amW HP.out,hN.out,hL.out];rfl));have HL:=Lib.hid (hL'.trans (show 8*bs.length+n+w=total (xs.take (k+1)) from by rw[SU HP.out,hL.out];rfl));clear hN' hL' hb' hs hb hc0 hc1 hbl
       go_wp2_with (fail)
       exact⟨⟨k+1,sv',bs',held',n',Z8,rfl,hs',hn',hh',HN,HL,hb3⟩,by show xs.length-(((k:Int)+1).toNat)<xs.length-((k:Int).toNat);omega⟩
      ·have hke:k=xs.length:=Z8
       subst hke;have hbl:bs.length≤2000000:=by have:=hL.out;have:=AX xs xs.length;omega
       rw[mz] at hN hL
       go_wp2_with (fail)
       refine (arF held n _ G sv bs _ hs hn8 hh hbl).mono ?_;rintro e w' ⟨rfl,hb'⟩;have hb3:=hb.trans hb';have hS:NB xs=⟨(avR bs held n).toArray⟩:=by rw[NB,Jg HE.out,avT hn8 hh hN.out hL.out]
       have HS:=Lib.hid hS;clear hS hn8 hh
       go_wp2_with (fail)
       go_ret2
       exact⟨by rw[HS.out,HE.out];rfl,hb3⟩
end bits
namespace bits
structure Reader (w:World) (a t:Nat) (at_:Nat) (s:ByteArray):Prop where
 ha:w.heap[a]? =some (.cells #[.int .i64 (at_:Int)] 3 (0,0))
 ht:w.heap[t]? =some (.cells #[.string s] 9 (0,0))
def SV (s:ByteArray) (at0 w:Nat):Nat:=tJ s.data.toList/2^at0%2^w
theorem Reader.ne {w:World} {a t n:Nat} {s:ByteArray} (h:Reader w a t n s):t≠a:=by
 intro e;have:=h.ha;rw[←e,h.ht] at this;simp at this
theorem Reader.set {w:World} {a t n:Nat} {s:ByteArray} (h:Reader w a t n s) (m:Nat):Reader (w.setCell ⟨a,0,none⟩ (.int .i64 (m:Int))) a t m s:=
 ⟨by rw[heap_setCell_same _ _ _ _ _ _ h.ha];rfl,by rw[heap_setCell_other _ _ _ _ h.ne];exact h.ht⟩
theorem Reader.drew {w:World} {a t n:Nat} {s:ByteArray} (h:Reader w a t n s):Reader w.drew a t n s:=⟨h.ha,h.ht⟩
theorem avU (b:UInt8) (r tk:Nat) (h:tk≤8):bits BinOp.and jz (jz.wrap ((b.toNat:Int)/2^r)) (jz.wrap (jz.wrap (2^tk)-1))=((b.toNat/2^r%2^tk:Nat):Int):=by
 have hb:=b.toNat_lt;have h1:(2:Nat)^tk≤2^8:=mr Z9 h;have h2:0<(2:Nat)^tk:=aaf _;have h3:b.toNat/2^r≤b.toNat:=Nat.div_le_self _ _;have e1:jz.wrap ((b.toNat:Int)/2^r)=((b.toNat/2^r:Nat):Int):=by
  rw[aad,show ((b.toNat:Int)/2^r)=((b.toNat/2^r:Nat):Int) from by simp];generalize b.toNat/2^r=z at h3 ⊢;omega
 have e2:jz.wrap (2^tk)=((2^tk:Nat):Int):=by
  rw[aad,show ((2:Int)^tk)=((2^tk:Nat):Int) from by simp];omega
 have e3:jz.wrap (((2^tk:Nat):Int)-1)=((2^tk-1:Nat):Int):=by
  rw[aad];omega
 rw[e1,e2,e3,u64_and_nat _ _ Z8 Z8,aal]
theorem aDY (V P h tk:Nat) (hV:V<2^h) (hP:P<2^tk) (hh:h+tk≤64):bits BinOp.or jz (V:Int) (jz.wrap ((P:Int)*2^h))=((V+P*2^h:Nat):Int):=by
 have h1:(P+1)*2^h≤2^tk*2^h:=cr _ hP;rw[←aac,ff,Nat.one_mul] at h1;have h2:(2:Nat)^(tk+h)≤2^64:=mr Z9 Z8;have h3:0<(2:Nat)^h:=aaf _;have e:jz.wrap ((P:Int)*2^h)=((P*2^h:Nat):Int):=by
  rw[aad,show ((P:Int)*2^h)=((P*2^h:Nat):Int) from by simp];omega
 rw[e,u64_or_nat _ _ Z8 Z8];congr 1;rw[aam,nat_join h (P*2^h) V (aap _ _) hV];omega
theorem aiF (l:List UInt8) (q r tk:Nat) (b:UInt8) (hb:l[q]? =some b) (h:tk+r≤8):tJ l/2^(8*q+r)%2^tk=b.toNat/2^r%2^tk:=by
 induction l generalizing q with
 |nil=>simp at hb
 |cons x l ih=>
  cases q with
  |zero=>
   simp at hb;subst hb;rw[nP,aav,Nat.zero_add,show 256=2^r*(2^tk*2^(8-(tk+r))) from by rw[←aac, ←aac,show r+(tk+(8-(tk+r)))=8 from by omega]];rw[aae,Nat.add_mul_div_left _ _ (aaf _),aae,Nat.add_mul_mod_self_left]
  |succ q=>
   have hx:=x.toNat_lt;rw[nP,show 8*(q+1)+r=8+(8*q+r) from by omega,aac, ←aaj,show (x.toNat+256*tJ l)/2^8=tJ l from by omega];exact ih q (by simpa using hb)
theorem amX (s:ByteArray) (at0 h tk q r:Nat) (hq:q<s.size) (he:at0+h=8*q+r) (ht:tk+r≤8):SV s at0 (h+tk)=SV s at0 h+s[q].toNat/2^r%2^tk*2^h:=by
 have e:=aiF s.data.toList q r tk s[q] (by rw[Lib.size_eq] at hq;simp [aba,ak hq]) ht;unfold SV;rw[←e, ←he,aac,aac,aay, ←aaj,ij]
attribute [local go_sem] bO.acB bO.OQ
theorem aDZ (w at0 a t:Nat) (s:ByteArray) (W:World) (hr:Reader W a t at0 s) (hw:w≤64) (hle:at0+w≤8*s.size) (hs:s.size≤1000000000000000):
  Calls lk 316 #[.int .i64 (w:Int), .pointer (some ⟨a,0,none⟩), .pointer (some ⟨t,0,none⟩)] W fun e w'=>e= .returned (.int .u64 ((SV s at0 w:Nat):Int))∧Reader w' a t (at0+w) s∧W.grownBy w' (some a):=by
 go_enter Tryz.func316,Tryz.ntmps316
 go_wp2_with (fail)
 have hlt0:t<W.heap.size:=(dn.1 hr.ht).1;have hne:some t≠some a:=by
  intro e;have:=hr.ha;rw[←Option.some.inj e,hr.ht] at this;simp at this
 go_loopw [5,6] (fun v x wr=> ∃ h:Nat,h≤w∧x= .int .i64 (h:Int)∧v= .int .u64 ((SV s at0 h:Nat):Int)∧Reader wr a t (at0+h) s∧W.grownBy wr (some a)) (fun _ x _=>w-(intOf x).toNat)
 case atStart=>exact⟨0,fe _,rfl,by simp [SV,aax],hr,BI _ _⟩
 case round=>
  obtain⟨h,hh,rfl,rfl,hr1,hgr⟩:=hrel;by_cases hlt:h<w
  ·obtain⟨q,r,hqr,hr8⟩: ∃ q r,at0+h=8*q+r∧r<8:=⟨(at0+h)/8,(at0+h)%8,Z8,Z8⟩;obtain⟨at1,hat⟩: ∃ at1,at1=at0+h:=⟨_,rfl⟩;rw[←hat] at hr1 hqr;have e1:(at1:Int)%8=(r:Int):=Z8
   have e2:(at1:Int)/8=(q:Int):=Z8
   have hq:q<s.size:=Z8
   have hqI:(q:Int)<(s.size:Int):=Z8
   have hltI:(h:Int)<(w:Int):=Z8
   have c1:=cell_of_one hr1.ha;have c2:=cell_of_one hr1.ht;have f1:=free_of_one hr1.ha;obtain⟨V,hV⟩: ∃ V,V=SV s at0 h:=⟨_,rfl⟩;rw[←hV];have HV:=Lib.hid hV;have HQ:=Lib.hid hqr;have HA:=Lib.hid hat;clear hV hqr hat;obtain⟨tk,htk⟩: ∃ tk:Nat,min (8-(r:Int)) ((w:Int)-(h:Int))=(tk:Int):=⟨(min (8-(r:Int)) ((w:Int)-(h:Int))).toNat,Z8⟩;have ht1:1≤tk:=Z8
   have ht2:tk+r≤8:=Z8
   have ht3:h+tk≤w:=Z8
   have htI:(tk:Int)<64:=Z8
   have htI0:(0:Int)≤(tk:Int):=Z8
   go_wp2_with (fail)
   clear htk
   go_region
   rw[avU _ _ _ Z8];have hP:s[q].toNat/2^r%2^tk<2^tk:=jf _ (aaf _);have hN:=amX s at0 h tk q r hq (by rw[←HA.out,HQ.out]) ht2;have hV:V<2^h:=by rw[HV.out];exact jf _ (aaf _)
   generalize s[q].toNat/2^r%2^tk=P at hP hN ⊢;rw[←HV.out] at hN;have hor:=aDY V P h tk hV hP Z8;have HN:=Lib.hid hN;obtain⟨V',hV'⟩: ∃ V',V'=V+P*2^h:=⟨_,rfl⟩;rw[←hV'] at hor;have HV':=Lib.hid hV';have hr2:=hr1.drew;have c1:=cell_of_one hr2.ha;have c2:=cell_of_one hr2.ht;have f1:=free_of_one hr2.ha;have hgr2:=alP hgr;generalize wr.drew=w2 at hr2 c1 c2 f1 hgr2 ⊢;clear hN hV' hV hP;have hgo:=atI hgr2 0 (.int .i64 ((at1+tk:Nat):Int));have hrd:=hr2.set (at1+tk);rw[HA.out,b9] at hrd hgo
   go_wp2_with (fail)
   refine⟨⟨h+tk,ht3,Ja,by rw[HN.out,HV'.out], ?_, ?_⟩,by show w-((h:Int)+(tk:Int)).toNat<w-((h:Int)).toNat;omega⟩
   ·have e:(at1:Int)+(tk:Int)=((at0+(h+tk):Nat):Int):=by rw[HA.out];omega
    rw[e];exact hrd
   ·have e:(at1:Int)+(tk:Int)=((at0+(h+tk):Nat):Int):=by rw[HA.out];omega
    rw[e];exact hgo
  ·obtain rfl:h=w:=Z8
   go_wp2_with (fail)
   go_ret
   exact⟨rfl,hr1,hgr⟩
end bits
namespace mI
open sl put get
theorem xK (n:Nat) (hn:n<18446744073709551616):Ct lk 245 [.int .u64 (n:Int)] [] fun v H'=>v= .string (str (cY n))∧H'=[]:=
 bK fun W _=>(oX n hn W).mono fun e' w' ⟨h1,h2⟩=>⟨by rw[h1],h2⟩
theorem JS {l:List UInt8} {n k:Nat} (h:l.length≤1000000000000000) (e:fK l=(n,k,0)):Ct lk 248 [.string (str l)] [] fun v H'=>v= .tuple #[.int .u64 (n:Int), .int .i64 (k:Int), .int .i64 0]∧H'=[]:=
 bK fun W _ => (FC (str l) ZI W).mono fun e' w' ⟨h1, h2⟩ => ⟨by
  have h3 : fK (str l).data.toList = (n, k, 0) := e;rw [h1, h3]; rfl, by rw [← h2]; exact Below.refl _ _⟩
attribute [local irreducible] box own sl bL aH bJ Qt cN cM dG dL eQ
theorem adV (b:Nat) {l:List UInt8} {n k:Nat} (h:l.length≤1000000000000000) (e:fK l=(n,k,0)) (hk:k≤l.length) (hn:n≤512):
  Ct lk 220 [aH b 0, .int .u64 512] [box b [.string (str l), .bool false] 306] fun v H'=>v= .int .i64 (n:Int)∧H'=[box b [.string (str (l.drop k)), .bool false] 306]:=by
 have G0:=JS h e;(refine Ye Tryz.func220 Tryz.ntmps220 ?_;intro Fr);(repeat' (first|refine Y3 ?_|refine Wc (G0 ..) ?_|fail));exact Ea (x:=⟨rfl,rfl⟩)
theorem aMB (b:Nat) {l:List UInt8} {n k:Nat} (h:l.length≤1000000000000000) (e:fK l=(n,k,0)) (hn:512<n):
  Ct lk 220 [aH b 0, .int .u64 512] [box b [.string (str l), .bool false] 306] fun v H'=>v= .int .i64 0∧H'=[box b [.string (str l), .bool true] 306]:=by
 have G0:=JS h e;(refine Ye Tryz.func220 Tryz.ntmps220 ?_;intro Fr);(repeat' (first|refine Y3 ?_|refine Wc (G0 ..) ?_|fail));exact Ea (x:=⟨rfl,rfl⟩)
def XK (n:Nat) (r:List UInt8):List UInt8×Int:=if n≤512∧r.length=n then (r,0) else ([],4)
theorem aFF (l r:List UInt8) {n k:Nat} (h:l.length≤1000000000000000) (e:fK l=(n,k,0)) (hk:k≤l.length) (hr:l.drop k=r):
  Ct lk 153 [.string (str (1::l))] [] fun v H'=>v= .tuple #[.string (str (XK n r).1), .int .i64 (XK n r).2]∧H'=[]:=by
 have hl:(1::l).length=l.length+1:=rfl;have e0:((1::l)==[])=false:=rfl;have e1:List.drop 1 (1::l)=l:=rfl;have e2:(1::l)[0]? =some 1:=rfl;have hu:aaw 1=1:=rfl;by_cases hn:n≤512
 ·have N0:=fun b=>adV b h e hk hn
  rw[hr] at N0;have hrl:r.length≤l.length:=by rw[←hr,bq];omega
  by_cases zy:r.length=n
  ·have ew:XK n r=(r,0):=by unfold XK;rw[Jg ⟨hn,zy⟩]
   rw[ew];(refine Ye Tryz.func153 Tryz.ntmps153 ?_;intro Fr);(refine bF ?_;intro b);(refine Ca (N0 _) ?_;rintro _ _ ⟨_,⟨rfl,rfl⟩,rfl⟩;refine Da ?_);refine bM ?_;exact Ea (x:=⟨rfl,rfl⟩)
  ·have ew:XK n r=([],4):=by unfold XK;rw[Jf (fun h=>zy h.2)]
   rw[ew];(refine Ye Tryz.func153 Tryz.ntmps153 ?_;intro Fr);(refine bF ?_;intro b);(refine Ca (N0 _) ?_;rintro _ _ ⟨_,⟨rfl,rfl⟩,rfl⟩;refine Da ?_);refine bM ?_;exact Ea (x:=⟨rfl,rfl⟩)
 ·have ew:XK n r=([],4):=by unfold XK;rw[Jf (fun h=>hn h.1)]
  rw[ew];have N0:=fun b=>aMB b h e Z8
  (refine Ye Tryz.func153 Tryz.ntmps153 ?_;intro Fr);(refine bF ?_;intro b);(refine Ca (N0 _) ?_;rintro _ _ ⟨_,⟨rfl,rfl⟩,rfl⟩;refine Da ?_);refine bM ?_;exact Ea (x:=⟨rfl,rfl⟩)
end mI
