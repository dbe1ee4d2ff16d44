/- Law HandStale: its texts, packed. -/
import Derived.Test.YtbjalbcdbgcgdaaGreatK13
import Derived.Test.YtbjalbcdbgcgdaaGreatK14
import Derived.Test.YtbjalbcdbgcgdaaGreatK07
import Derived.Test.YtbjalbcdbgcgdaaGreatK00
import Derived.Test.YtbjalbcdbgcgdaaGreatRows
import Derived.Deep.OwnRows
import Derived.Test.YtbjalbcdbgcgdaaGreatK06
open List renaming cons_append->jg,drop_eq_getElem_cons->cu,getElem?_eq_getElem->aj,getElem?_eq_some_iff->ah,getElem?_map->al,length_map->jj,mem_of_getElem?->jm,take_length->jb
open Nat renaming add_assoc->bw,ble_eq_true_of_le->dw,le_refl->aq,mul_one->ao,pow_le_pow_right->ib,zero_le->fg
open Array renaming replicate->fm
set_option linter.unusedVariables false
set_option maxRecDepth 100000
set_option maxHeartbeats 8000000
namespace Go.Proofs.YtbjalbcdbgcgdaaGreat.fs
open Go.RowKit bG sl aX fV dE dO use
structure FD where
 a:Option Addr
 ca:Nat
 cs:List ByteArray
 w:Option Addr
 cw:Nat
 ps:List (Int×ByteArray)
 m:Option Addr
 cm:Nat
 at':List (Int×Int)
 g:Option Addr
 cg:Nat
 aE:List Int
def bE (b:Nat) (d:FD) (s t f o:Value):Ent:=box b [.slice d.a d.cs.length d.ca, .slice d.w d.ps.length d.cw, .slice d.m d.at'.length d.cm, .slice d.g d.aE.length d.cg,s,t,f,o] 136
instance {b:Nat} {d:FD} {s t f o:Value} {L:List Ent} [h:XL L]:XL (bE b d s t f o::L):=by unfold bE;infer_instance
def bB (d:FD):List Ent:=[sl 1 (.slice d.a d.cs.length d.ca) (d.cs.map fS),sl 2 (.slice d.w d.ps.length d.cw) (d.ps.map fP),sl 2 (.slice d.m d.at'.length d.cm) (d.at'.map jW),sl 1 (.slice d.g d.aE.length d.cg) (d.aE.map fI)]
structure Told (d:FD) (i:Nat) (l:List UInt8):Prop where
 xL:aX.Good d.cs d.ps
 map:dP d.at' d.aE
 lt:i<48
 ex: ∃ p g,d.at'[i]? =some p∧d.aE[i]? =some g∧p.1≠0∧nR d.cs d.ps p g (i:Int)=some l
attribute [local irreducible] box own sl gH aH bC Qt cJ cG dC dG eO
theorem ahY (b:Nat) (d:FD) (s t f o:Value) (i:Nat) {l:List UInt8} (h:Told d i l):
  Ct Tryz.prog 147 [aH b 0, .int .i64 (i:Int)] (bE b d s t f o::bB d) fun v H'=> ∃ q c,v= .tuple #[.agg #[.int .i64 (kI l), .int .i64 (gI l), .int .i64 (zI l), .slice q (pI l).length c], .int .i64 0]∧H'=[bE b d s t f o,own (.slice q (pI l).length c) 77 2 (pI l).length (flat jW (pI l))]:=by
 obtain⟨hg,hm,hlt,p,g,hp,hgi,h0,hin⟩:=h;obtain⟨a,ca,cs,w,cw,ps,m,cm,at',qg,cg,aE⟩:=d;dsimp only at hg hm hp hgi hin;have hal:=hm.1;have I0:=YV (a:=a) (w:=w) (qa:=m) (qg:=qg) (ca:=ca) (cw:=cw) (ca2:=cm) (cg:=cg) hp hgi (by omega) hg hin;unfold bE bB;dsimp only;(refine Ye Tryz.func147 Tryz.ntmps147 ?_;intro Fr);(repeat' (first|refine Wa ?_|refine Wk ?_|refine aF ?_|(refine Wb ?_;intro b)|(refine Wq ?_;intro q)|(refine Ws ?_ ?_<;>intro h)|refine Wz ?_|fail));(refine aB (Hq:=[_,_,_,_,_]) [1,2,3,4,5] [] rfl (by kernel_rfl) Za ?_);(repeat' (first|refine Wa ?_|refine Wk ?_|refine We ?_|(refine Wb ?_;intro b)|(refine Wr ?_;intro q)|(refine Ws ?_ ?_<;>intro h)|refine Wz ?_|fail));(refine aA 9 ?_;refine cU 14 (by kernel_rfl) ?_ ?_)
 ·(refine Cd 9 (I0) ?_;rintro _ _ ⟨_,⟨q5,c5,rfl,rfl⟩,rfl⟩;refine Te ?_;(try refine Da ?_));(repeat' (first|refine Wa ?_|refine Wk ?_|refine We ?_|(refine Wb ?_;intro b)|(refine Wq ?_;intro q)|(refine Ws ?_ ?_<;>intro h)|refine Wz ?_|fail));exact Ea (x:=⟨q5,c5,rfl,rfl⟩)
 ·(refine Oc (l:=by exact iI rfl) (k:= ?_);rintro _ _ ⟨b5,rfl,rfl⟩;refine Te ?_;(try refine Da ?_));(repeat' (first|refine Wa ?_|refine Wk ?_|refine We ?_|(refine Wb ?_;intro b)|(refine Wr ?_;intro q)|(refine Ws ?_ ?_<;>intro h)|refine Wz ?_|fail));(refine Cc 9 (I0) ?_;rintro _ _ ⟨_,⟨q5,c5,rfl,rfl⟩,rfl⟩;refine Te ?_;(try refine Da ?_));(repeat' (first|refine Wa ?_|refine Wk ?_|refine We ?_|(refine Wb ?_;intro b)|(refine Wq ?_;intro q)|(refine Ws ?_ ?_<;>intro h)|refine Wz ?_|fail));exact Ea (x:=⟨q5,c5,rfl,rfl⟩)
end Go.Proofs.YtbjalbcdbgcgdaaGreat.fs
namespace Go.Proofs.YtbjalbcdbgcgdaaGreat.lens
open Go.RowKit bG
def mU (w:Int):List Value:=[Value.int .i64 w]
def wt (x:Int):Nat:=if 0<x then 2^(15-x.toNat) else 0
def iF:List Int→Nat
 |[]=>0
 |x::l=>wt x+iF l
def gM:List Int→Bool
 |[]=>false
 |x::l=>if x<0∨15<x then true else gM l
def dL (l:List Int):Nat:=if 320<l.length then 2 else if gM l=true then 1 else 0
def cH (l:List Int):Nat:=if dL l≠0 then dL l else if 32768<iF l then 6 else 0
theorem RG (a b:List Int):iF (a++b)=iF a+iF b:=by
 induction a with
 |nil=>simp [iF]
 |cons x a ih=>rw[jg,iF,iF,ih,bw]
theorem adX {l:List Int} {k:Nat} {x:Int} (hp:l[k]? =some x):iF (l.take (k+1))=iF (l.take k)+wt x:=by
 rw[take_one hp,RG];rfl
theorem aCT (x:Int):wt x≤16384:=by
 unfold wt;split
 ·rename_i h;have h1:15-x.toNat≤14:=by omega
  exact ib (n:=2) (by decide) h1
 ·omega
theorem uD (a b:List Int):gM (a++b)=(gM a||gM b):=by
 induction a with
 |nil=>simp [gM]
 |cons x a ih=>
  rw[jg,gM,gM,ih];split<;>simp
theorem DH {l:List Int} {k:Nat} {w:Int} (hp:l[k]? =some w) (h0:gM (l.take k)=false) (hw: ¬ (w<0∨15<w)):gM (l.take (k+1))=false:=by
 rw[take_one hp,uD,h0,gM,if_neg hw];rfl
theorem zU {l:List Int} {k:Nat} {w:Int} (hp:l[k]? =some w) (hw:w<0∨15<w):gM l=true:=by
 have e1:l=l.take k++w::l.drop (k+1):=by
  rw[←(ah.1 hp).2, ←cu,List.take_append_drop]
 rw[e1,uD,gM,if_pos hw,Bool.or_true]
theorem qR {l:List Int} (h:gM l=false) {w:Int} (hw:w∈l):0≤w∧w≤15:=by
 induction l with
 |nil=>cases hw
 |cons x l ih=>
  unfold gM at h;split at h
  ·cases h
  ·rcases List.mem_cons.1 hw with rfl|hw
   ·omega
   ·exact ih h hw
def qS (l:List Int):Nat:=if dL l=0 then iF l else 0
theorem KU (v:Value) (xs:List Int) (W:World) (hs:bM W 1 v (xs.map mU)) (hg: ∀ x∈xs,(Lit.int .i64 x).wf=true) (hn:xs.length≤1000000000000000):
  Calls Tryz.prog 344 #[v] W fun e w'=>e= .returned (.tuple #[.int .i64 (qS xs:Int), .int .i64 (dL xs:Int)])∧W=w':=by
 obtain⟨q,cap,b,off,rfl,hq,hc⟩:=hs.view;simp only[jj] at hq ⊢;have HQ:=Lib.hid hq;have HC:Hid (∀ k x,xs[k]? =some x→W.cell? ⟨b,off+k,none⟩=some (.int .i64 x)):=fun k p hx=>by
  have:=hc k _ (by rw[al,hx];rfl) 0 _ rfl;simpa [ao] using this
 clear hs hq hc;by_cases hbig:(320:Int)<(xs.length:Int)
 ·have hE:dL xs=2:=by rw[dL,if_pos (by omega)]
  have hF:qS xs=0:=by rw[qS,if_neg Zl]
  rw[hF,hE]
  go_enter Tryz.func344,Tryz.ntmps344
  go_wp2_with (fail)
  go_ret2
  exact⟨rfl,rfl⟩
 ·have hn3:xs.length≤320:=by omega
  go_enter Tryz.func344,Tryz.ntmps344
  go_wp2_with (fail)
  go_loopw [4,12] (fun z y wr=> ∃ k n:Nat,k≤xs.length∧z= .int .i64 n∧y= .int .i64 k∧Hid (gM (xs.take k)=false)∧Hid (n=iF (xs.take k))∧n≤16384*k∧W=wr) (fun _ y _=>xs.length-(intOf y).toNat)
  case atStart=>exact⟨0,0,fg _,rfl,rfl,rfl,rfl,aq _,rfl⟩
  case round=>
   obtain⟨k,n,hk,rfl,rfl,hfe,hfn,hnk,rfl⟩:=hrel;by_cases hlt:k<xs.length
   ·obtain⟨rfl,hblk⟩:=HQ.out k hlt;obtain⟨x,hp⟩: ∃ p,xs[k]? =some p:=⟨_,aj hlt⟩;have hc0:=HC.out k _ hp;have hltI:(k:Int)<(xs.length:Int):=by omega
    have hp2:=CB (hg _ (jm hp));have HP:=Lib.hid hp;clear hp;by_cases hneg:x<0
    ·have hE:dL xs=1:=by rw[dL,if_neg (by omega),if_pos (zU HP.out (.inl hneg))]
     have hF:qS xs=0:=by rw[qS,if_neg Zl]
     go_wp2_with (fail)
     go_ret2
     exact⟨rfl,rfl⟩
    ·by_cases hbig:15<x
     ·have hE:dL xs=1:=by rw[dL,if_neg (by omega),if_pos (zU HP.out (.inr hbig))]
      have hF:qS xs=0:=by rw[qS,if_neg Zl]
      go_wp2_with (fail)
      go_ret2
      exact⟨rfl,rfl⟩
     ·have HE:=Lib.hid (DH HP.out hfe.out (by omega));obtain⟨m,hm⟩: ∃ m,m=n+wt x:=⟨_,rfl⟩;have HN:Hid (m=iF (xs.take (k+1))):=by show m=_;rw[adX HP.out, ←hfn.out];exact hm
      have hmk:m≤16384*(k+1):=by have:=aCT x;omega
      by_cases h0:0<x
      ·obtain⟨w,rfl⟩: ∃ w:Nat,x=(w:Int):=⟨x.toNat,by omega⟩;have hws:(15:Int)-(w:Int)=((15-w:Nat):Int):=by omega
       have hwt:wt (w:Int)=2^(15-w):=by unfold wt;rw[if_pos h0];rfl
       have hmI:(n:Int)+2^(15-w)=(m:Int):=by rw[hm,hwt];simp
       have hp14:(2:Int)^(15-w)≤16384:=by have:=aCT (w:Int);rw[hwt] at this;exact_mod_cast this
       clear hm hwt
       go_wp2_with (fail)
       exact⟨⟨k+1,m,by omega,rfl,rfl,HE,HN,hmk,trivial⟩,by show xs.length-(((k:Int)+1).toNat)<xs.length-((k:Int).toNat);omega⟩
      ·have hwt:wt x=0:=by unfold wt;rw[if_neg h0]
       rw[hwt,Nat.add_zero] at hm;subst hm
       go_wp2_with (fail)
       exact⟨⟨k+1,m,by omega,rfl,rfl,HE,HN,hmk,trivial⟩,by show xs.length-(((k:Int)+1).toNat)<xs.length-((k:Int).toNat);omega⟩
   ·have hke:k=xs.length:=by omega
    subst hke;rw[jb] at hfe hfn;have hE:dL xs=0:=by rw[dL,if_neg (by omega),if_neg (by rw[hfe.out];decide)]
    have hF:qS xs=n:=by rw[qS,if_pos hE,hfn.out]
    go_wp2_with (fail)
    go_ret2
    exact⟨by rw[hF,hE];rfl,rfl⟩
end Go.Proofs.YtbjalbcdbgcgdaaGreat.lens
namespace Go.Proofs.YtbjalbcdbgcgdaaGreat.lens
open Go.RowKit bG
def cnt:List Int→Nat→Nat
 |[],_=>0
 |x::l,j=>(if x=(j:Int) then 1 else 0)+cnt l j
theorem ahZ (a b:List Int) (j:Nat):cnt (a++b) j=cnt a j+cnt b j:=by
 induction a with
 |nil=>simp [cnt]
 |cons x a ih=>rw[jg,cnt,cnt,ih,bw]
theorem qT {l:List Int} {k:Nat} {x:Int} (hp:l[k]? =some x) (j:Nat):cnt (l.take (k+1)) j=cnt (l.take k) j+(if x=(j:Int) then 1 else 0):=by
 rw[take_one hp,ahZ];rfl
theorem DI (l:List Int) (j:Nat):cnt l j≤l.length:=by
 induction l with
 |nil=>simp [cnt]
 |cons x l ih=>rw[cnt,List.length_cons];split<;>omega
def DJ (l:List Int):Nat→Nat
 |0=>0
 |1=>0
 |w+2=>(DJ l (w+1)+cnt l (w+1))*2
theorem KV (l:List Int) (w:Nat) (h:1≤w):DJ l (w+1)=(DJ l w+cnt l w)*2:=by
 obtain⟨v,rfl⟩: ∃ v,w=v+1:=⟨w-1,by omega⟩;rfl
theorem aDX (l:List Int) (h:l.length≤320): ∀ w,DJ l w+640≤640*2^w:=by
 intro w;induction w with
 |zero=>simp [DJ]
 |succ w ih=>
  cases w with
  |zero=>simp [DJ]
  |succ w=>
   rw[KV _ _ (by omega),Nat.pow_succ];have:=DI l (w+1);omega
theorem UU (l:List Int) (h:l.length≤320) (w:Nat) (hw:w≤16):DJ l w≤41943040:=by
 have h1:=aDX l h w;have h2:2^w≤2^16:=ib (by decide) hw;have h3:(2:Nat)^16=65536:=by decide
 omega
def fM (l:List Int) (i:Nat):Nat:=
 match l[i]? with
 |some x=>if 0<x then DJ l x.toNat+cnt (l.take i) x.toNat else 0
 |none=>0
def iv (n:Nat):Value:= .int .i64 (n:Int)
def alT (xs:List Int) (W:World) (e:Ending) (w':World):Prop:=
  (cH xs ≠ 0 ∧ e = .returned (.tuple #[.slice none 0 0, .int .i64 (cH xs : Int)]) ∨
   cH xs = 0 ∧ ∃ G, e = .returned (.tuple #[.slice (some ⟨G, 0, none⟩) xs.length xs.length, .int .i64 0]) ∧ W.heap.size ≤ G ∧ w'.rowIs G 3 xs.length (fun i => iv (fM xs i))) ∧ Below W.heap.size W w'
def nx (l:List Int) (i j:Nat):Nat:=DJ l j+(if j=0 then 0 else cnt (l.take i) j)
theorem ayY (l:List Int) (j:Nat):nx l 0 j=DJ l j:=by unfold nx;simp [cnt]
theorem aiA {l:List Int} {i m:Nat} (hp:l[i]? =some (m:Int)) (j:Nat):nx l (i+1) j=nx l i j+(if j=m∧0<m then 1 else 0):=by
 unfold nx;rw[qT hp j];by_cases h0:j=0
 ·subst h0;rw[if_pos rfl,if_pos rfl,if_neg (by omega)]
 ·rw[if_neg h0,if_neg h0];by_cases h:j=m
  ·subst h;rw[if_pos rfl,if_pos ⟨rfl,by omega⟩];omega
  ·rw[if_neg (by omega),if_neg (fun h2=>h h2.1)];omega
theorem zV {l:List Int} {i m:Nat} (hp:l[i]? =some (m:Int)) (hm:0<m):fM l i=nx l i m:=by
 unfold fM nx;rw[hp];simp only;rw[if_pos (by omega),if_neg (by omega)];rfl
theorem RH {l:List Int} {i:Nat} (hp:l[i]? =some ((0:Nat):Int)):fM l i=0:=by
 unfold fM;rw[hp];rfl
theorem aCU (l:List Int) (h:l.length≤320) (i j:Nat) (hj:j≤16):nx l i j≤41943360:=by
 unfold nx;have h1:=UU l h j hj;have h2:=DI (l.take i) j;simp at h2;split<;>omega
theorem aGN:(Tryz.prog.info? 428).map (·.zero)=some (some (.agg (fm 17 (.int .i64 0)))):=by kernel_rfl
theorem aGO:(Tryz.prog.info? 3).map (fun i=>(i.zero,i.size,i.bytes))=some (some (.int .i64 0),1,8):=by kernel_rfl
theorem alU (v:Value) (xs:List Int) (W:World) (hs:bM W 1 v (xs.map mU)) (hg: ∀ x∈xs,(Lit.int .i64 x).wf=true) (hn:xs.length≤1000000000000000):
  Calls Tryz.prog 313 #[v] W (alT xs W):=by
 have hfill:=fun w=>KU v xs w
 obtain⟨q,cap,b,off,rfl,hq,hc⟩:=hs.view;simp only[jj] at hq hfill hs ⊢;have HQ:=Lib.hid hq;have HC:Hid (∀ k x,xs[k]? =some x→W.cell? ⟨b,off+k,none⟩=some (.int .i64 x)):=fun k p hx=>by
  have:=hc k _ (by rw[al,hx];rfl) 0 _ rfl;simpa [ao] using this
 clear hq hc;by_cases hE:dL xs=0
 ·by_cases hO:32768<iF xs
  ·have hF:qS xs=iF xs:=by rw[qS,if_pos hE]
   have hCE:cH xs=6:=by rw[cH,if_neg Zl,if_pos hO]
   have hOI:(32768:Int)<(iF xs:Int):=by omega
   go_enter Tryz.func313,Tryz.ntmps313
   go_wp2_with (fail)
   refine (hfill _ hs hg hn).mono ?_;rintro e w' ⟨rfl,rfl⟩;rw[hE,hF];clear hE hF
   go_wp2_with (fail)
   go_ret2
   exact⟨.inl ⟨by rw[hCE];decide,by rw[hCE];rfl⟩,Below.refl _ _⟩
  ·have hF:qS xs=iF xs:=by rw[qS,if_pos hE]
   have hCE:cH xs=0:=by rw[cH,if_neg Zl,if_neg hO]
   have hOI: ¬ (32768:Int)<(iF xs:Int):=by omega
   have hn3:xs.length≤320:=by
    unfold dL at hE;split at hE
    ·cases hE
    ·omega
   have hbad:gM xs=false:=by
    unfold dL at hE;rw[if_neg (by omega)] at hE;cases h:gM xs
    ·rfl
    ·rw[h] at hE;simp at hE
   have HCE:=Lib.hid hCE;have HB:=Lib.hid hbad;clear hCE hbad hn
   go_enter Tryz.func313,Tryz.ntmps313
   go_wp2_with (fail)
   refine (hfill _ hs hg (by omega)).mono ?_;rintro e w' ⟨rfl,rfl⟩;rw[hE,hF];clear hE hF hfill
   go_wp2_with (with_reducible refine bG.rN rfl 428 rfl (.agg (fm 17 (.int .i64 0))) aGN ?_)
   have hr7:((W.alloc (Obj.cells (fm 17 (Value.int .i64 0)) 428)).alloc (Obj.cells (fm 17 (Value.int .i64 0)) 428)).rowIs (W.heap.size+1) 428 17 (fun _=>Value.int .i64 0):=by
    have:=World.rowIs_alloc (W.alloc (Obj.cells (fm 17 (Value.int .i64 0)) 428)) (fm 17 (Value.int .i64 0)) 428 (fun _=>Value.int .i64 0) (fun i hi=>by simp at hi;simp [hi]);simpa using this
   have hr6:((W.alloc (Obj.cells (fm 17 (Value.int .i64 0)) 428)).alloc (Obj.cells (fm 17 (Value.int .i64 0)) 428)).rowIs W.heap.size 428 17 (fun j=>iv (cnt (xs.take 0) j)):=by
    have:=World.rowIs_alloc W (fm 17 (Value.int .i64 0)) 428 (fun _=>Value.int .i64 0) (fun i hi=>by simp at hi;simp [hi]);have h2:(W.alloc (Obj.cells (fm 17 (Value.int .i64 0)) 428)).rowIs W.heap.size 428 17 (fun _=>Value.int .i64 0):=by simpa using this
    exact (h2.congr (fun i hi=>rfl)).alloc _
   have hb:Below W.heap.size W ((W.alloc (Obj.cells (fm 17 (Value.int .i64 0)) 428)).alloc (Obj.cells (fm 17 (Value.int .i64 0)) 428)):=((Below.refl _ _).alloc (aq _) _).alloc (by simp) _;generalize (W.alloc (Obj.cells (fm 17 (Value.int .i64 0)) 428)).alloc (Obj.cells (fm 17 (Value.int .i64 0)) 428)=wx at hr6 hr7 hb ⊢;obtain⟨G,hG⟩: ∃ G,W.heap.size=G:=⟨_,rfl⟩;rw[hG] at hr6 hr7 ⊢;have hGl:W.heap.size≤G:=by omega
   have HG:=Lib.hid hG;clear hG
   go_loopw [26] (fun y wr=> ∃ k:Nat,k≤xs.length∧y= .int .i64 k∧wr.rowIs G 428 17 (fun j=>iv (cnt (xs.take k) j))∧wr.rowIs (G+1) 428 17 (fun _=> .int .i64 0)∧Below W.heap.size W wr) (fun y _=>xs.length-(intOf y).toNat)
   case atStart=>exact⟨0,fg _,rfl,hr6,hr7,hb⟩
   case round=>
    clear hr6 hr7 hb;obtain⟨k,hk,rfl,hr6,hr7,hb⟩:=hrel;by_cases hlt:k<xs.length
    ·obtain⟨rfl,hblk⟩:=HQ.out k hlt;obtain⟨x,hp⟩: ∃ p,xs[k]? =some p:=⟨_,aj hlt⟩;have hx:=qR HB.out (jm hp);obtain⟨m,rfl⟩: ∃ m:Nat,x=(m:Int):=⟨x.toNat,by omega⟩;have hm15:m≤15:=by omega
     have hmI:(m:Int)≤15:=by omega
     have hc0:wr.cell? ⟨b,off+k,none⟩=some (.int .i64 (m:Int)):=(hb.cell (p:=⟨b,off+k,none⟩) hblk).trans (HC.out k _ hp);have hltI:(k:Int)<(xs.length:Int):=by omega
     obtain⟨cm,hcm⟩: ∃ cm,cm=cnt (xs.take k) m:=⟨_,rfl⟩;have hc1:wr.cell? ⟨G,m,none⟩=some (.int .i64 (cm:Int)):=by rw[hr6.cell (by omega),hcm];rfl
     have f1:=hr6.frozen m;have hcm3:cm≤320:=by rw[hcm];have:=DI (xs.take k) m;simp at this;omega
     have hr6' := (hr6.set m (.int .i64 ((cm : Int) + 1))).congr (g := fun j => iv (cnt (xs.take (k + 1)) j)) (fun j hj => by
      rw[qT hp j];by_cases h:j=m
      ·subst h;rw[if_pos rfl,if_pos rfl,hcm];rfl
      ·rw [if_neg h, if_neg (by omega)]; rfl)
     have hr7':=hr7.setOther (a:=⟨G,m,none⟩) (by simp) (.int .i64 ((cm:Int)+1));have hb':=hb.setCell (p:=⟨G,m,none⟩) hGl (.int .i64 ((cm:Int)+1));have HP:=Lib.hid hp;clear hp hcm hr6 hr7 hx
     go_wp2_with (fail)
     exact⟨⟨k+1,by omega,rfl,hr6',hr7',hb'⟩,by show xs.length-(((k:Int)+1).toNat)<xs.length-((k:Int).toNat);omega⟩
    ·have hke:k=xs.length:=by omega
     subst hke;rw[jb] at hr6;have f0:=hr6.frozen 0;obtain⟨c0,hc0⟩: ∃ c0,c0=cnt xs 0:=⟨_,rfl⟩;have hc1:wr.cell? ⟨G,0,none⟩=some (.int .i64 (c0:Int)):=by rw[hr6.cell (by omega),hc0];rfl
     have hr6':=hr6.set 0 (.int .i64 0);have hr7':=hr7.setOther (a:=⟨G,0,none⟩) (by simp) (.int .i64 0);have hb':=hb.setCell (p:=⟨G,0,none⟩) hGl (.int .i64 0);clear hr6 hr7 hb hc0
     go_wp2_with (fail)
     generalize wr.setCell ⟨G,0,none⟩ (.int .i64 0)=w1 at hr6' hr7' hb' ⊢;clear hc1 f0
     go_loopw [10] (fun y wr=> ∃ w:Nat,1≤w∧w≤16∧y= .int .i64 w∧wr.rowIs G 428 17 (fun j=>if j=0 then Value.int .i64 0 else iv (cnt xs j))∧wr.rowIs (G+1) 428 17 (fun j=>if j≤w then iv (DJ xs j) else .int .i64 0)∧Below W.heap.size W wr) (fun y _=>16-(intOf y).toNat)
     case atStart=>
      refine⟨1,by omega,by omega,rfl,hr6',hr7'.congr (fun j hj=> ?_),hb'⟩;by_cases h:j≤1
      ·rw[if_pos h]
       match j,h with
       |0,_=>rfl
       |1,_=>rfl
      ·rw[if_neg h]
     case round=>
      clear hr6' hr7' hb';obtain⟨w,hw1,hw16,rfl,hr6,hr7,hb⟩:=hrel;by_cases hw:w≤15
      ·have hwI:(w:Int)≤15:=by omega
       obtain⟨c,hc⟩: ∃ c,c=cnt xs w:=⟨_,rfl⟩;obtain⟨n,hn⟩: ∃ n,n=DJ xs w:=⟨_,rfl⟩;have c1:wr.cell? ⟨G,w,none⟩=some (.int .i64 (c:Int)):=by rw[hr6.cell (by omega),if_neg (by omega),hc];rfl
       have c2:wr.cell? ⟨G+1,w,none⟩=some (.int .i64 (n:Int)):=by rw[hr7.cell (by omega),if_pos (aq _),hn];rfl
       have c3:wr.cell? ⟨G+1,w+1,none⟩=some (.int .i64 0):=by rw[hr7.cell (by omega),if_neg (by omega)]
       have f3:=hr7.frozen (w+1);have hcl:c≤320:=by rw[hc];have:=DI xs w;omega
       have hnl:n≤41943040:=by rw[hn];exact UU xs hn3 w hw16
       have hr7' := (hr7.drew.set (w + 1) (.int .i64 (((n : Int) + (c : Int)) * 2))).congr (g := fun j => if j ≤ w + 1 then iv (DJ xs j) else .int .i64 0) (fun j hj => by
        by_cases h:j=w+1
        ·subst h;rw[if_pos rfl,if_pos (aq _),KV xs w hw1, ←hc, ←hn,iv];simp
        ·rw[if_neg h];by_cases h2:j≤w
         ·rw[if_pos h2,if_pos (by omega)]
         ·rw [if_neg h2, if_neg (by omega)])
       have hr6':=hr6.drew.setOther (a:=⟨G+1,w+1,none⟩) (by simp) (.int .i64 (((n:Int)+(c:Int))*2));have hb':=hb.drew.setCell (p:=⟨G+1,w+1,none⟩) (by simp;omega) (.int .i64 (((n:Int)+(c:Int))*2));clear hr6 hr7 hc hn
       go_wp2_with (fail)
       go_region
       go_wp2_with (fail)
       exact⟨⟨w+1,by omega,by omega,rfl,hr6',hr7',hb'⟩,by show 16-(((w:Int)+1).toNat)<16-((w:Int).toNat);omega⟩
      ·have hwe:w=16:=by omega
       subst hwe;have l6:=hr6.lt;have l7:=hr7.lt;have hmk:=fun w:World=>run_make_row' 23 3 (.int .i64 0) 8 Tryz.underlying23 aGO rfl .i64 .i64 xs.length (by omega) (by omega) w
       have hr7x:=hr7.congr (g:=fun j=>iv (nx xs 0 j)) (fun j hj=>by rw[if_pos (by omega),ayY]);have hsz:=hb.size;clear hr6 hr7
       go_wp2_with (fail)
       have hrow:=World.rowIs_made wr (.int .i64 0) xs.length 3;have hr7y:=hr7x.alloc (Obj.cells (madeCells #[Value.int .i64 0] xs.length) 3);have hb0:=hb.alloc hsz (Obj.cells (madeCells #[Value.int .i64 0] xs.length) 3);generalize wr.alloc (Obj.cells (madeCells #[Value.int .i64 0] xs.length) 3)=w2 at hrow hr7y hb0 ⊢;obtain⟨R,hR⟩: ∃ R,wr.heap.size=R:=⟨_,rfl⟩;rw[hR] at hrow l6 l7 hsz ⊢;clear hmk hr7x hb hR
       go_loopw [57] (fun y ws=> ∃ i:Nat,i≤xs.length∧y= .int .i64 i∧ws.rowIs (G+1) 428 17 (fun j=>iv (nx xs i j))∧ws.rowIs R 3 xs.length (fun j=>if j<i then iv (fM xs j) else .int .i64 0)∧Below W.heap.size W ws) (fun y _=>xs.length-(intOf y).toNat)
       case atStart=>exact⟨0,fg _,rfl,hr7y,hrow.congr (fun j hj=>by rw[if_neg (by omega)]),hb0⟩
       case round=>
        clear hr7y hrow hb0;obtain⟨i,hi,rfl,hr7,hro,hb⟩:=hrel;by_cases hlt:i<xs.length
        ·obtain⟨rfl,hblk⟩:=HQ.out i hlt;obtain⟨x,hp⟩: ∃ p,xs[i]? =some p:=⟨_,aj hlt⟩;have hx:=qR HB.out (jm hp);obtain⟨m,rfl⟩: ∃ m:Nat,x=(m:Int):=⟨x.toNat,by omega⟩;have hm15:m≤15:=by omega
         have hmI:(m:Int)≤15:=by omega
         have hc0:wr.cell? ⟨b,off+i,none⟩=some (.int .i64 (m:Int)):=(hb.cell (p:=⟨b,off+i,none⟩) hblk).trans (HC.out i _ hp);have hltI:(i:Int)<(xs.length:Int):=by omega
         by_cases hm0:0<m
         ·have hm0I:(0:Int)<(m:Int):=by omega
          obtain⟨c,hc⟩: ∃ c,c=nx xs i m:=⟨_,rfl⟩;have c1:wr.cell? ⟨G+1,m,none⟩=some (.int .i64 (c:Int)):=by rw[hr7.cell (by omega),hc];rfl
          have c2:wr.cell? ⟨R,i,none⟩=some (.int .i64 0):=by rw[hro.cell hlt,if_neg (by omega)]
          have c1':(wr.setCell ⟨R,i,none⟩ (.int .i64 (c:Int))).cell? ⟨G+1,m,none⟩=some (.int .i64 (c:Int)):=by
           rw[(hr7.setOther (a:=⟨R,i,none⟩) (by simp;omega) _).cell (by omega),hc];rfl
          have f1:=hro.frozen i;have f2:=(hr7.setOther (a:=⟨R,i,none⟩) (by simp;omega) (.int .i64 (c:Int))).frozen m;have hcl:c≤41943360:=by rw[hc];exact aCU xs hn3 i m (by omega)
          have hro' := ((hro.set i (.int .i64 (c : Int))).congr (g := fun j => if j < i + 1 then iv (fM xs j) else .int .i64 0) (fun j hj => by
           by_cases h:j=i
           ·subst h;rw[if_pos rfl,if_pos (by omega),zV hp hm0,hc];rfl
           ·rw[if_neg h];by_cases h2:j<i
            ·rw[if_pos h2,if_pos (by omega)]
            ·rw [if_neg h2, if_neg (by omega)])).setOther (a := ⟨G + 1, m, none⟩) (by simp; omega) (.int .i64 ((c : Int) + 1))
          have hr7' := ((hr7.setOther (a := ⟨R, i, none⟩) (by simp; omega) (.int .i64 (c : Int))).set m (.int .i64 ((c : Int) + 1))).congr (g := fun j => iv (nx xs (i + 1) j)) (fun j hj => by
           rw[aiA hp];by_cases h:j=m
           ·subst h;rw[if_pos rfl,if_pos ⟨rfl,hm0⟩, ←hc];rfl
           ·rw [if_neg h, if_neg (fun h2 => h h2.1)]; rfl)
          have hb':=(hb.setCell (p:=⟨R,i,none⟩) (by simp;omega) (.int .i64 (c:Int))).setCell (p:=⟨G+1,m,none⟩) (by simp;omega) (.int .i64 ((c:Int)+1));clear hr7 hro hp hc hx
          go_wp2_with (fail)
          exact⟨⟨i+1,by omega,rfl,hr7',hro',hb'⟩,by show xs.length-(((i:Int)+1).toNat)<xs.length-((i:Int).toNat);omega⟩
         ·have hm0':m=0:=by omega
          subst hm0';have hro' := hro.congr (g := fun j => if j < i + 1 then iv (fM xs j) else .int .i64 0) (fun j hj => by
           by_cases h:j=i
           ·subst h;rw[if_neg (by omega),if_pos (by omega),RH hp];rfl
           ·by_cases h2:j<i
            ·rw[if_pos h2,if_pos (by omega)]
            ·rw [if_neg h2, if_neg (by omega)])
          have hr7':=hr7.congr (g:=fun j=>iv (nx xs (i+1) j)) (fun j hj=>by rw[aiA hp,if_neg (by omega)];rfl);clear hr7 hro hp hx
          go_wp2_with (fail)
          exact⟨⟨i+1,by omega,rfl,hr7',hro',hb⟩,by show xs.length-(((i:Int)+1).toNat)<xs.length-((i:Int).toNat);omega⟩
        ·have hie:i=xs.length:=by omega
         subst hie;have hro':=hro.congr (g:=fun j=>iv (fM xs j)) (fun j hj=>by rw[if_pos hj]);clear hro hr7
         go_wp2_with (fail)
         go_ret2
         exact⟨.inr ⟨HCE.out,R,rfl,by omega,hro'⟩,hb⟩
 ·have hCE:cH xs=dL xs:=by rw[cH,if_pos hE]
  have hEI:((dL xs:Int) !=0)=true:=by simp;omega
  go_enter Tryz.func313,Tryz.ntmps313
  go_wp2_with (fail)
  refine (hfill _ hs hg hn).mono ?_;rintro e w' ⟨rfl,rfl⟩
  go_wp2_with (fail)
  go_ret2
  exact⟨.inl ⟨by rw[hCE];exact hE,by rw[hCE];rfl⟩,Below.refl _ _⟩
end Go.Proofs.YtbjalbcdbgcgdaaGreat.lens
namespace Go.Proofs.YtbjalbcdbgcgdaaGreat.sl
open Go.RowKit bG lens
class Arr (P:Program) (t:TypeId) (len e:outParam Nat):Prop where
 h:P.underlying t=some (.array len e)
section
variable {P:Program} {n:Nat} {F:dF} {H R:List Ent} {o:Oper} {x y z:Operand} {v u z':Value} {T S:TypeId}
theorem tV {b i k m len e by':Nat} {j:Int} {kd:IntKind} {agg:Bool} [ht:Arr P T len e] [hs:Ty P e agg 1 by' z'] (ho:o.op= .indexAddr T x y) (hx:ev F x=some (aH b i)) (hy:ev F y=some (.int kd j)) (hj:j=(k:Int)) (hk:k<len) (hm:i+k=m):Qt P n o F H (aH b m):=fun a w ha _=>by
 subst hm;have he:P.elem T=e:=by simp [Program.elem,ht.h]
 have hl:P.arrayLen T=len:=by simp [Program.arrayLen,ht.h]
 have hu:P.underlying T=some (.array (P.arrayLen T) (P.elem T)):=by rw[he,hl];exact ht.h
 have h1:=run_indexAt_array (P:=P) w T ⟨b,i,none⟩ kd j hu;rw[he,hl,cV hs,if_pos ⟨by omega,by omega⟩] at h1;simp only[Result.andThen_ok] at h1;have h2:(⟨b,i,none⟩:Addr).add (j.toNat*1)=⟨b,i+k,none⟩:=by rw[hj];simp [Addr.add]
 rw[h2] at h1;simp only[execOp,ho,ha.eval hx,ha.eval hy,aH,Sem.run_bind,h1,Result.andThen_ok,Sem.run_pure]
theorem QS {b i by':Nat} {cs:List Value} {t:TypeId} [ht:Ty P T false 1 by' z'] (ho:o.op= .load T x) (hx:ev F x=some (aH b i)) (p:bF (box b cs t) H R) (hv:cs[i]? =some v):Qt P n o F H v:=
 rQ (vs := [v]) ho hx p (by
  rw [ah] at hv;obtain ⟨h1, h2⟩ := hv;rw [cu h1, h2];rfl) rfl (nU v)
theorem arN {k':IntKind} {i j r:Int} {m:Nat} {T':TypeId} (ho:o.op= .binOp .shl T x y T') (hx:ev F x=some (.int .i64 i)) (hy:ev F y=some (.int k' j)) (hj:j=(m:Int)) (hm:m≤62) (hr:IntKind.i64.wrap (i*2^m)=r):Qt P n o F H (.int .i64 r):=
 arA (hp:=⟨by rw[hj];rfl,by omega,by omega⟩) ho hx hy (dw (by simp [IntKind.bits];omega)) hr
theorem arO {k k':IntKind} {i j r:Int} {m:Nat} {T':TypeId} (ho:o.op= .binOp .shr T x y T') (hx:ev F x=some (.int k i)) (hy:ev F y=some (.int k' j)) (hj:j=(m:Int)) (hm:m≤8) (hr:i/2^m=r):Qt P n o F H (.int k r):=by
 subst hr;exact aCO (hp:=⟨by rw[hj];rfl,by omega,by omega⟩) ho hx hy (dw (by cases k<;>simp [IntKind.bits]<;>omega))
end
end Go.Proofs.YtbjalbcdbgcgdaaGreat.sl
namespace Go.Proofs.YtbjalbcdbgcgdaaGreat.lens
open Go.RowKit bG sl
def sX (l:List Int):List Int:=(List.range l.length).map fun i=>((fM l i:Nat):Int)
theorem alV (l:List Int):(sX l).length=l.length:=by simp [sX]
def asP (l:List Int) (v:Value) (H':List Ent):Prop:=(cH l≠0∧v= .tuple #[.slice none 0 0, .int .i64 (cH l:Int)]∧H'=[])∨
 (cH l=0∧ ∃ q c,v= .tuple #[.slice q l.length c, .int .i64 0]∧H'=[own (.slice q l.length c) 3 1 l.length (flat fI (sX l))])
theorem IL (l:List Int):flat fI l=l.map fun x=>Value.int .i64 x:=by
 induction l with
 |nil=>rfl
 |cons x l ih=>show fI x++flat fI l=_;rw[ih];rfl
theorem YZ (q : Option Addr) (c : Nat) (l : List Int) (hg : ∀ x ∈ l, (Lit.int .i64 x).wf = true) (hn : l.length ≤ 1000000000000000) : Ct Tryz.prog 313 [.slice q l.length c] [sl 1 (.slice q l.length c) (l.map fI)] (asP l) := ⟨fun Fr w hw => by
 refine (alU (.slice q l.length c) l w hw.head hg hn).mono fun e w' ⟨hor,hb⟩=> ?_
 have hw2:aD Fr w:=hw.tail;have hm:mP (fun _=>False) w w':=⟨hb.os,hb.tape,hb.output,hb.size,fun b hb' _=>hb.block b hb'⟩;rcases hor with⟨h1,h2⟩|⟨h1,G,h2,h3,h4⟩
 ·exact⟨_,[],h2, .inl ⟨h1,rfl,rfl⟩,hw2.aBV hm⟩
 ·refine⟨_,[own (.slice (some ⟨G,0,none⟩) l.length l.length) 3 1 l.length (flat fI (sX l))],h2, .inr ⟨h1,_,_,rfl,rfl⟩, ?_⟩;refine aD.new hw2 hm ?_ fun b hb=> ?_
  ·obtain⟨cs,k1,k2,k3⟩:=h4;have k4:cs.toList=flat fI (sX l):=by
    rw[IL];apply List.ext_getElem?;intro i;rw[al,sX,al,Array.getElem?_toList];rcases Nat.lt_or_ge i l.length with hi|hi
    ·rw[k3 i hi,List.getElem?_range hi];rfl
    ·rw[Array.getElem?_eq_none (by omega),List.getElem?_eq_none (by simpa using hi)];rfl
   refine⟨by rw[IL];simp [sX], .inr ⟨G,l.length,cs,rfl,fg _,k1,aq _,by unfold maxLen;omega,by rw[k2,ao], ?_⟩⟩;rw[k4];exact List.take_of_length_le (by rw[IL];simp [sX])
  ·have : G = b := Option.some.inj hb;omega⟩
end Go.Proofs.YtbjalbcdbgcgdaaGreat.lens
