/- FsOps, packed. -/
import Derived.Test.YtbjalbcdbgcgdaaGreatOQ
import Derived.Test.YtbjalbcdbgcgdaaGreatO04
import Derived.Test.YtbjalbcdbgcgdaaGreatO03
import Derived.Test.YtbjalbcdbgcgdaaGreatO00
import Derived.Test.YtbjalbcdbgcgdaaGreatO01
open Go.Proofs.Tryz renaming prog->lk
open List renaming Perm.cons->adw,Perm.refl->ja,Perm.swap->kj,Perm.trans->acn,Sublist.refl->aeb,append_assoc->fu,append_nil->ke,cons_append->dw,count->abr,count_append->aea,drop->adq,drop_eq_getElem_cons->bh,eq_nil_of_length_eq_zero->bp,ext_getElem?->ep,filter_append->fo,flatMap_cons->abw,getD_eq_getElem?_getD->my,getElem?_append_right->gz,getElem?_eq_getElem->ak,getElem?_eq_none->je,getElem?_eq_some_iff->aj,getElem?_map->dp,getElem?_range->abn,getElem?_replicate->adt,getElem?_zip_eq_some->adv,length->adu,length_append->ae,length_cons->dv,length_drop->bq,length_dropLast->adx,length_eq_one_iff->l8,length_map->gp,length_pos_iff->mf,length_singleton->gk,length_take->ar,map->aee,map_append->ads,map_cons->gd,map_map->adz,map_nil->gu,map_take->jj,mem_append->ei,mem_append_right->lp,mem_cons->al,mem_cons_of_mem->a8,mem_cons_self->bu,mem_map->fa,mem_map_of_mem->acg,mem_of_getElem?->jg,mem_of_mem_take->ll,mem_reverse->acm,mem_singleton->eh,nil_append->dz,not_mem_nil->ck,range->mn,range_succ->aec,replicate->du,reverse_append->ady,take->aef,take_add_one->ib,take_length->mz,take_of_length_le->bd
open Nat renaming eq_zero_or_pos->jo,le_refl->df,le_trans->gm,lt_or_ge->ig,mul_le_mul->n6,pow_le_pow_right->mr,pow_succ->n8,sub_self->ku,two_pow_pos->aaf,zero_le->fe
open Int renaming lt_or_le->aed
open Option renaming some.inj->a7
open Prod renaming mk.injEq->de
open UInt8 renaming ofNat->ky
open Go.Value renaming slice->jw
open Go.IntKind renaming bits->jm,i64->kx
set_option linter.unusedVariables false
set_option maxRecDepth 100000
set_option maxHeartbeats 8000000
namespace Go.Proofs.YtbjalbcdbgcgdaaGreat
namespace cK
open Go.RowKit bO fix XA put get
def BV (z:(Int×Int)×Int):List UInt8:=cY z.2.toNat++dN z.1.1.toNat 1++dN z.1.2.toNat 1
def fM (zs:List ((Int×Int)×Int)):List UInt8:=zs.flatMap BV
theorem BZ (a b:List ((Int×Int)×Int)):fM (a++b)=fM a++fM b:=by simp [fM]
theorem ahG (z:(Int×Int)×Int):3≤(BV z).length∧(BV z).length≤13:=by
 have:=xH 10 z.2.toNat;simp [BV,cJ,cY];omega
def AV (zs:List ((Int×Int)×Int)):Prop:=zs.length=48∧ ∀ z∈zs,gT z.1∧0≤z.2∧z.2≤2147483647
theorem aCX {ps:List (Int×Int)} {gs:List Int} (h:eT ps gs):AV (ps.zip gs):=by
 obtain⟨h1,h2,h3⟩:=h;refine⟨by simp [h1,h2],fun z hz=> ?_⟩;obtain⟨i,hi⟩:=List.getElem?_of_mem hz;rw[adv] at hi;have hl:=(aj.1 hi.1).1;exact h3 i Z8 _ _ hi.1 hi.2
theorem uF {zs:List ((Int×Int)×Int)} (h:AV zs):eT (zs.map (·.1)) (zs.map (·.2)):=by
 obtain⟨h1,h2⟩:=h;refine⟨by simp [h1],by simp [h1],fun i hi p g hp hg=> ?_⟩;rw[dp] at hp hg;obtain⟨z,hz,rfl⟩:=Option.map_eq_some_iff.1 hp;rw[hz] at hg;have:=a7 hg;subst this;exact h2 z (jg hz)
theorem ahH (zs:List ((Int×Int)×Int)):(zs.map (·.1)).zip (zs.map (·.2))=zs:=by
 induction zs with
 |nil=>rfl
 |cons z zs ih=>simp only[gd,List.zip_cons_cons,ih]
def Inv (L:List UInt8) (zs:List ((Int×Int)×Int)) (rest:List UInt8):Prop:=
 L=fM zs++rest∧ ∀ zs0,AV zs0→L=fM zs0→ ∃ more,zs0=zs++more
theorem avC (L:List UInt8):Inv L [] L:=⟨rfl,fun zs0 _ _=>⟨zs0,rfl⟩⟩
theorem ahI {z:(Int×Int)×Int} (h:gT z.1∧0≤z.2∧z.2≤2147483647) (more:List UInt8):fK (BV z++more)=(z.2.toNat,(cY z.2.toNat).length,0)∧(cY z.2.toNat).length+2≤(BV z++more).length∧(BV z++more)[(cY z.2.toNat).length]? =some (ky z.1.1.toNat)∧(BV z++more)[(cY z.2.toNat).length+1]? =some (ky z.1.2.toNat):=by
 obtain⟨⟨h1,h2,h3,h4,_,_⟩,h5,h6⟩:=h;have e:BV z++more=cY z.2.toNat++(ky z.1.1.toNat::ky z.1.2.toNat::more):=by
  unfold BV;rw[sQ _ Z8,sQ _ Z8];simp
 rw[e];refine⟨FE _ _ Z8,Ja, ?_, ?_⟩
 ·rw[gz (df _)];simp
 ·rw[gz Z8];simp
theorem ahJ {L rest:List UInt8} {zs zs0:List ((Int×Int)×Int)} (h:Inv L zs rest) (hl:zs.length<48) (h0:AV zs0) (hw:L=fM zs0): ∃ z more,zs0=zs++z::more∧rest=BV z++fM more∧gT z.1∧0≤z.2∧z.2≤2147483647:=by
 obtain⟨h1,h2⟩:=h;obtain⟨more,hm⟩:=h2 zs0 h0 hw;cases more with
 |nil=>
  have:=h0.1;rw[hm] at this;simp at this;omega
 |cons z more=>
  refine⟨z,more,hm, ?_,h0.2 z (by rw[hm];simp)⟩;rw[hw,hm,BZ] at h1;exact (List.append_cancel_left h1).symm
theorem aCY {L rest:List UInt8} {zs:List ((Int×Int)×Int)} {n k:Nat} {b1 b2:UInt8} (h:Inv L zs rest) (hl:zs.length<48) (hg:fK rest=(n,k,0)) (hn:n≤2147483647) (h1:rest[k]? =some b1) (h2:rest[k+1]? =some b2):Inv L (zs++[(((b1.toNat:Int),(b2.toNat:Int)),(n:Int))]) (rest.drop (k+2)):=by
 constructor
 ·obtain⟨m,e1,e2⟩: ∃ m,cY n=rest.take k∧m=k:=by
   rcases rG rest with⟨k2,m2,e1,e2,e3,e4,e5⟩|e|e
   ·rw[hg] at e1;simp only[de] at e1;obtain⟨rfl,rfl,_⟩:=e1;exact⟨_,e5,rfl⟩
   ·rw[hg] at e;simp at e
   ·rw[hg] at e;simp at e
  rw[BZ,fu,h.1];congr 1;have hk2:=(aj.1 h2).1;have zy:=(aj.1 h1);have zx:=(aj.1 h2);obtain⟨l1,l2⟩:=zy;obtain⟨l3,l4⟩:=zx;simp only[fM,BV,abw,List.flatMap_nil,ke,Int.toNat_natCast,agM,e1]
  conv=>lhs;rw[←List.take_append_drop k rest]
  rw[fu,fu];congr 1;rw[bh l1,bh l3,l2,l4];rfl
 ·intro zs0 h0 hw;obtain⟨z,more,e1,e2,e3⟩:=ahJ h hl h0 hw;obtain⟨r1,r2,r3,r4⟩:=ahI e3 (fM more);rw[←e2] at r1 r2 r3 r4;rw[hg] at r1;simp only[de] at r1;obtain⟨a1,a2,_⟩:=r1;rw[←a2] at r3 r4;rw[h1] at r3;rw[h2] at r4;obtain⟨⟨h1,h2,h3,h4,_,_⟩,h5,h6⟩:=e3;have b1:=a7 r3;have b2:=a7 r4;refine⟨more, ?_⟩;rw[e1,b1,b2,a1];obtain⟨⟨z1,z2⟩,z3⟩:=z;simp only at h1 h2 h3 h4 h5 h6 ⊢;have c1:((ky z1.toNat).toNat:Int)=z1:=by simp;omega
  have c2:((ky z2.toNat).toNat:Int)=z2:=by simp;omega
  have c3:(z3.toNat:Int)=z3:=Z8
  rw[c1,c2,c3];simp
theorem aKR {L rest:List UInt8} {zs:List ((Int×Int)×Int)} (h:Inv L zs rest) (hl:zs.length<48) (hb: ∀ n k,fK rest=(n,k,0)→n≤2147483647→ ¬ k+2≤rest.length): ¬ ∃ zs0,AV zs0∧L=fM zs0:=by
 rintro⟨zs0,h0,hw⟩;obtain⟨z,more,e1,e2,e3⟩:=ahJ h hl h0 hw;obtain⟨r1,r2,r3,r4⟩:=ahI e3 (fM more);rw[←e2] at r1 r2;exact hb _ _ r1 (by have:=e3.2;omega) r2
theorem aqX {L rest:List UInt8} {zs zs0:List ((Int×Int)×Int)} (h:Inv L zs rest) (hl:zs.length=48) (h0:AV zs0) (hw:L=fM zs0):zs0=zs∧rest=[]:=by
 obtain⟨h1,h2⟩:=h;obtain⟨more,hm⟩:=h2 zs0 h0 hw;have zy:more=[]:=by
  have:=h0.1;rw[hm] at this;simp at this;exact bp Z8
 subst zy;rw[ke] at hm;subst hm;rw[hw] at h1;refine⟨rfl, ?_⟩;have:=congrArg adu h1;simp at this;exact this
end cK
namespace cK
open Go.RowKit bO sl fix put get
attribute [local irreducible] box own sl bL aH bJ Qt cN cM dG dL eQ
theorem aCZ (l:List UInt8) (h:l.length≤1000000000000000):Ct lk 248 [.string (str l)] [] fun v H'=>v=aQN (fK l)∧H'=[]:=
 bK fun W _=>(FC (str l) ZI W).mono fun e w' ⟨h1,h2⟩=>⟨h1,by rw[←h2];exact Below.refl _ _⟩
theorem JS {l:List UInt8} {n k:Nat} (h:l.length≤1000000000000000) (e:fK l=(n,k,0)):Ct lk 248 [.string (str l)] [] fun v H'=>v= .tuple #[.int .u64 (n:Int), .int .i64 (k:Int), .int .i64 0]∧H'=[]:=by
 have:=aCZ l h;rwa [e] at this
theorem RH {l:List UInt8} {m:Nat} (h:l.length≤1000000000000000) (e:fK l=(0,0,m)):Ct lk 248 [.string (str l)] [] fun v H'=>v= .tuple #[.int .u64 0, .int .i64 0, .int .i64 (m:Int)]∧H'=[]:=by
 have:=aCZ l h;rwa [e] at this
theorem KC:Ct lk 164 [] [] fun v H'=> ∃ qa qg,v= .agg #[.slice qa 48 48, .slice qg 48 48]∧H'=[own (.slice qa 48 48) 77 2 48 (flat jP (du 48 (0,0))),own (.slice qg 48 48) 3 1 48 (flat fI (du 48 0))]:=by
 (refine Ye Tryz.func164 Tryz.ntmps164 ?_;intro Fr);(refine bD ?_;intro b);(refine aD (Hq:=[]) [] [] rfl Jd Za ?_);(refine aB 0 ?_;refine cD 1 Jd ?_ ?_)
 ·(refine Oc (l:=by exact (dH (jP) ((0,0)) (c:=48) rfl rfl rfl Zf Zf rfl rfl Z8 Zi)) (k:= ?_);rintro _ _ ⟨qa,rfl,rfl⟩;refine Te ?_;(try refine Da ?_));(refine aB 1 ?_;refine Oa (l:=by exact (dH (fI) (0) (c:=48) rfl rfl rfl Zf Zf rfl rfl Z8 Zi)) (k:= ?_);rintro _ _ ⟨qg,rfl,rfl⟩;refine Te ?_;(try refine Da ?_));refine aF ?_;exact Ea (x:=⟨qa,qg,rfl,rfl⟩)
 ·(refine Oc (l:=by exact (dH (fI) (0) (c:=48) rfl rfl rfl Zf Zf rfl rfl Z8 Zi)) (k:= ?_);rintro _ _ ⟨qg,rfl,rfl⟩;refine Te ?_;(try refine Da ?_));(refine aB 0 ?_;refine Oa (l:=by exact (dH (jP) ((0,0)) (c:=48) rfl rfl rfl Zf Zf rfl rfl Z8 Zi)) (k:= ?_);rintro _ _ ⟨qa,rfl,rfl⟩;refine Te ?_;(try refine Da ?_));refine aF ?_;exact Ea (x:=⟨qa,qg,rfl,rfl⟩)
theorem nN (i:Int) (w:Nat) (h1:1≤w∧w≤8) (hi:0≤i∧i<18446744073709551616):Ct lk 194 [.int .u64 i, .int .i64 (w:Int)] [] fun v H'=>v= .string (str (dN i.toNat w))∧H'=[]:=by
 obtain⟨n,rfl⟩: ∃ n:Nat,i=(n:Int):=⟨i.toNat,Z8⟩;exact bK fun W _=>acP n w h1.1 h1.2 Z8 W
theorem xK (i:Int) (hi:0≤i∧i<18446744073709551616):Ct lk 245 [.int .u64 i] [] fun v H'=>v= .string (str (cY i.toNat))∧H'=[]:=by
 obtain⟨n,rfl⟩: ∃ n:Nat,i=(n:Int):=⟨i.toNat,Z8⟩;exact bK fun W _=>oX n Z8 W
theorem aQR {ps:List (Int×Int)} {gs:List Int} {i:Nat} {p:Int×Int} {g:Int} (hp:ps[i]? =some p) (hg:gs[i]? =some g):(ps.zip gs)[i]? =some (p,g):=by
 rw[adv];exact⟨hp,hg⟩
theorem qW {zs:List ((Int×Int)×Int)} {k:Nat} {z:(Int×Int)×Int} (h:zs[k]? =some z):fM (zs.take (k+1))=fM (zs.take k)++BV z:=by
 rw[take_one h,BZ];simp [fM]
theorem vS (qa qg:Option Addr) (ca cg:Nat) {ps:List (Int×Int)} {gs:List Int} (hw:WfM ps gs) (h:eT ps gs):Ct lk 192 [.agg #[.slice qa ps.length ca, .slice qg gs.length cg]] [sl 2 (.slice qa ps.length ca) (ps.map jP),sl 1 (.slice qg gs.length cg) (gs.map fI)] fun v H'=>v= .tuple #[.string (str (fM (ps.zip gs))), .int .i64 0]∧H'=[]:=by
 have CK:=oL (.slice qa ps.length ca) (.slice qg gs.length cg) hw h;obtain⟨h1,h2,h3⟩:=h;clear hw;(refine Ye Tryz.func192 Tryz.ntmps192 ?_;intro Fr);(refine auD ?_;intro b);(refine aC (σ:=Nat×List UInt8) (fun s=>s.1≤48∧s.2=fM ((ps.zip gs).take s.1)∧s.2.length≤13*s.1) (fun s=>[(16, .int .i64 (s.1:Int)),(5, .string (str s.2))]) (fun s=>[]) _ (fun s=>48-s.1) ((0,[])) (by exact⟨fe _,rfl,df _⟩) Ze Zb (fun⟨k,o⟩ ⟨hk,ho,zy⟩=> ?_);refine Da ?_);dsimp only at hk ho zy;rcases ig k 48 with hlt|hge
 ·obtain⟨p,hp⟩: ∃ p,ps[k]? =some p:=⟨_,ak Z8⟩;obtain⟨g,hg⟩: ∃ g,gs[k]? =some g:=⟨_,ak Z8⟩;obtain⟨⟨o1,o2,o3,o4,_,_⟩,o5,o6⟩:=h3 k hlt p g hp hg;have tn:=qW (aQR hp hg);rw[←ho] at tn;have rl:=ahG (p,g);have F1:=nN p.1 1 Z9 Z8;have F2:=nN p.2 1 Z9 Z8;have P1:=xK g Z8;have er:BV (p,g)=cY g.toNat++dN p.1.toNat 1++dN p.2.toNat 1:=rfl;have l1:=cJ p.1.toNat 1;have l2:=cJ p.2.toNat 1;rw[er] at tn rl;generalize dN p.1.toNat 1=f1 at*;generalize dN p.2.toNat 1=f2 at*;generalize cY g.toNat=pg at*;rw[ae,ae] at rl;clear ho er;(repeat' (first|refine Y1 ?_|(refine Wb ?_;intro b)|(refine Wq ?_;intro q)|refine Wc (CK ..) ?_|refine Wc (F1 ..) ?_|refine Wc (F2 ..) ?_|refine Wc (P1 ..) ?_|(refine Ws ?_ ?_<;>intro h)|refine Wz ?_|fail));refine Ee ((k+1,o++(pg++f1++f2))) ?_ ?_
  ·exact⟨hlt,tn.symm,by show (o++(pg++f1++f2)).length≤13*(k+1);simp only[ae];omega⟩
  ·show 48-(k+1)<48-k;omega
 ·have hk8:k=48:=Z8
  have ht:(ps.zip gs).take k=ps.zip gs:=bd (by rw[List.length_zip];omega);rw[ht] at ho;rw[←ho];clear ho ht;refine aF ?_;exact Ea (x:=⟨rfl,rfl⟩)
def Bytes (zs:List ((Int×Int)×Int)):Prop:= ∀ z∈zs,0≤z.1.1∧z.1.1<256∧0≤z.1.2∧z.1.2<256∧0≤z.2∧z.2≤2147483647
theorem rM {zs:List ((Int×Int)×Int)} (h:Bytes zs) (a b:UInt8) (n:Nat) (hn:n≤2147483647):Bytes (zs++[(((a.toNat:Int),(b.toNat:Int)),(n:Int))]):=by
 intro z hz;rcases ei.1 hz with hz|hz
 ·exact h z hz
 ·simp only[eh] at hz;subst hz;have:=a.toNat_lt;have:=b.toNat_lt;refine⟨?_, ?_, ?_, ?_, ?_, ?_⟩<;>simp<;>omega
theorem wfi {i:Int} (h:0≤i∧i≤2147483647):(Lit.int .i64 i).wf=true:=by
 simp [Lit.wf,IntKind.min,IntKind.max,jm,IntKind.signed];omega
theorem aDA {zs:List ((Int×Int)×Int)} (h:Bytes zs) (hl:zs.length=48):WfM (zs.map (·.1)) (zs.map (·.2)):=by
 refine⟨fun p hp=> ?_,fun z hz=> ?_,by simp [hl],by simp [hl]⟩
 ·obtain⟨z,hz,rfl⟩:=fa.1 hp;have:=h z hz;exact⟨wfi Z8,wfi Z8⟩
 ·obtain⟨y,hy,rfl⟩:=fa.1 hz;have:=h y hy;exact wfi Z8
def rowOf {α:Type} (z0:α) (xs:List α):List α:=xs++du (48-xs.length) z0
theorem aaG {α:Type} (z0:α) {xs:List α} (h:xs.length=48):rowOf z0 xs=xs:=by simp [rowOf,h]
theorem ahK {α:Type} (z0:α) {xs:List α} (h:xs.length<48):(rowOf z0 xs)[xs.length]? =some z0:=by
 rw[rowOf,gz (df _),ku,adt,Jg Z8]
theorem aaH {α:Type} (z0 z:α) {xs:List α} (h:xs.length<48):(rowOf z0 xs).set xs.length z=rowOf z0 (xs++[z]):=by
 have e:48-xs.length=(48-(xs.length+1))+1:=Z8
 rw[rowOf,e,List.replicate_succ,List.set_append_right _ _ (df _),ku,List.set_cons_zero];simp [rowOf]
def ahL (L:List UInt8) (v:Value) (H':List Ent):Prop:=
 (∃ zs qa qg,(AV zs∧L=fM zs)∧v= .tuple #[.agg #[.slice qa 48 48, .slice qg 48 48], .int .i64 0]∧H'=[own (.slice qa 48 48) 77 2 48 (flat jP (zs.map (·.1))),own (.slice qg 48 48) 3 1 48 (flat fI (zs.map (·.2)))])∨
 ((¬ ∃ zs,AV zs∧L=fM zs)∧v= .tuple #[.agg #[.slice none 0 0, .slice none 0 0], .int .i64 4]∧H'=[])
theorem rI (L:List UInt8) (hL:L.length≤1000000000000000):Ct lk 228 [.string (str L)] [] (ahL L):=by
 (refine Ye Tryz.func228 Tryz.ntmps228 ?_;intro Fr);(refine fH ?_;intro b);(refine Ca (KC) ?_;rintro _ _ ⟨_,⟨qa,qg,rfl,rfl⟩,rfl⟩;refine Da ?_);(refine fH ?_;intro b);rename_i br;(refine aC (σ:=Nat×List ((Int×Int)×Int)×List UInt8) (fun s=>s.1≤48∧s.2.1.length=s.1∧Inv L s.2.1 s.2.2∧Bytes s.2.1∧s.2.2.length≤1000000000000000) (fun s=>[(13, .int .i64 (s.1:Int)),(0, .string (str s.2.2))]) (fun s=>[own (.slice qa 48 48) 77 2 48 (flat jP (rowOf (0,0) (s.2.1.map (·.1)))),own (.slice qg 48 48) 3 1 48 (flat fI (rowOf 0 (s.2.1.map (·.2)))),box b [.slice qa 48 48, .slice qg 48 48] 73]) _ (fun s=>48-s.1) ((0,[],L)) (by exact⟨fe _,rfl,avC L,(fun z hz=>absurd hz ck),hL⟩) Ze Zb (fun⟨i,zs,r⟩ ⟨hz,zy,hI,hB,hr⟩=> ?_);refine Da ?_);dsimp only at hz zy hI hB hr;have hA:(zs.map (·.1)).length=i:=by rw[gp];exact zy
 have hG:(zs.map (·.2)).length=i:=by rw[gp];exact zy
 rcases ig i 48 with hlt|hge
 ·have zv:zs.length<48:=Z8
  have bad:(∀ n k,fK r=(n,k,0)→n≤2147483647→ ¬ k+2≤r.length)→ahL L (.tuple #[.agg #[.slice none 0 0, .slice none 0 0], .int .i64 4]) []:=fun h=> .inr ⟨aKR hI zv h,rfl,rfl⟩
  rcases rG r with⟨k,n,e1,e2,e3,e4,e5⟩|e1|e1
  ·have G1:=JS hr e1;by_cases hn:n≤2147483647
   ·by_cases hk:k+2≤r.length
    ·obtain⟨b1,zu⟩: ∃ b1,r[k]? =some b1:=⟨_,ak Z8⟩;obtain⟨b2,zt⟩: ∃ b2,r[k+1]? =some b2:=⟨_,ak Z8⟩;have zr:=aCY hI zv e1 hn zu zt;have zq:=rM hB b1 b2 n hn;have sA:=aaH ((0:Int),(0:Int)) ((b1.toNat:Int),(b2.toNat:Int)) (xs:=zs.map (·.1)) Z8;have sG:=aaH (0:Int) (n:Int) (xs:=zs.map (·.2)) Z8;have xA:=ahK ((0:Int),(0:Int)) (xs:=zs.map (·.1)) Z8;have xG:=ahK (0:Int) (xs:=zs.map (·.2)) Z8;have mA:zs.map (·.1)++[((b1.toNat:Int),(b2.toNat:Int))]=(zs++[(((b1.toNat:Int),(b2.toNat:Int)),(n:Int))]).map (·.1):=by rw[ads];rfl
     have mG:zs.map (·.2)++[(n:Int)]=(zs++[(((b1.toNat:Int),(b2.toNat:Int)),(n:Int))]).map (·.2):=by rw[ads];rfl
     rw[hA,mA] at sA;rw[hG,mG] at sG;rw[hA] at xA;rw[hG] at xG;clear e1 e5 bad hI hB;(repeat' (first|refine Y2 ?_|(refine Wb ?_;intro b)|(refine Wq ?_;intro q)|refine Wc (G1 ..) ?_|(refine Ws ?_ ?_<;>intro h)|refine Wz ?_|fail));(refine aD (Hq:=[_]) [2] [] rfl Jd Za ?_);refine aF ?_;(refine aB 19 ?_;refine Ob (l:=by exact (aI (f:=fI) (q':=(n:Int)) rfl rfl rfl rfl Zk rfl Z8 Zg Jc rfl rfl Jb)) (k:= ?_);rintro _ _ ⟨rfl,rfl⟩;refine Te ?_;(try refine Da ?_));rw[sG];refine aB 20 ?_;refine aF ?_;(refine aB 21 ?_;refine Ob (l:=by exact (aI (f:=jP) (q':=((b1.toNat:Int),(b2.toNat:Int))) rfl rfl rfl rfl Zk rfl Z8 Zg Jc rfl rfl Jb)) (k:= ?_);rintro _ _ ⟨rfl,rfl⟩;refine Te ?_;(try refine Da ?_));rw[sA];refine aF ?_;refine Ee ((i+1,zs++[(((b1.toNat:Int),(b2.toNat:Int)),(n:Int))],r.drop (k+2))) ?_ ?_
     ·exact⟨hlt,by rw[ae,zy];rfl,zr,zq,by show (r.drop (k+2)).length≤_;rw[bq];omega⟩
     ·show 48-(i+1)<48-i;omega
    ·have B0:=bad fun n' k' e h1 h2=>by rw[e1] at e;cases e;exact hk h2
     refine ES ?_;exact Ea (x:=B0)
   ·have B0:=bad fun n' k' e h1 h2=>by rw[e1] at e;cases e;exact hn h1
    refine ES ?_;exact Ea (x:=B0)
  ·have G1:=RH hr e1;have B0:=bad fun n' k' e h1 h2=>by rw[e1] at e;cases e
   refine ES ?_;exact Ea (x:=B0)
  ·have G1:=RH hr e1;have B0:=bad fun n' k' e h1 h2=>by rw[e1] at e;cases e
   refine ES ?_;exact Ea (x:=B0)
 ·have hi:i=48:=Z8
  subst hi;rw[aaG _ hA,aaG _ hG];have hw:=aDA hB zy;by_cases zw:r=[]
  ·subst zw;have zn:L=fM zs:=by have:=hI.1;rwa [ke] at this
   have e1:(([]:List UInt8)==[])=true:=rfl;by_cases zx:eT (zs.map (·.1)) (zs.map (·.2))
   ·have zm:AV zs:=by have:=aCX zx;rwa [ahH] at this
    have CK:=fun a g=>oL a g hw zx
    clear zx hI hB hw;refine agB ?_;exact Ea (x:= .inl ⟨zs,qa,qg,⟨zm,zn⟩,rfl,rfl⟩)
   ·have CK:=fun a g=>aaA a g hw zx
    have B0:ahL L (.tuple #[.agg #[.slice none 0 0, .slice none 0 0], .int .i64 4]) []:= .inr ⟨fun⟨zs0,h0,h1⟩=>zx (by rw[←(aqX hI zy h0 h1).1];exact uF h0),rfl,rfl⟩;clear zx hI hB hw;refine agB ?_;exact Ea (x:=B0)
  ·have e1:(r==[])=false:=by simpa using zw
   have B0:ahL L (.tuple #[.agg #[.slice none 0 0, .slice none 0 0], .int .i64 4]) []:= .inr ⟨fun⟨zs0,h0,h1⟩=>zw (aqX hI zy h0 h1).2,rfl,rfl⟩;refine aF ?_;exact Ea (x:=B0)
end cK
namespace cK
open Go.RowKit bO sl fix put get
attribute [local irreducible] box own sl bL aH bJ Qt cN cM dG dL eQ
theorem CA (zs:List ((Int×Int)×Int)):(fM zs).length≤13*zs.length:=by
 induction zs with
 |nil=>exact df _
 |cons z zs ih=>
  have:=ahG z;show (BV z++fM zs).length≤_;rw[ae,dv];omega
end cK
namespace eD
open Go.RowKit bO sl srt nE pm
abbrev XC:=Int×List Nat×Option Addr×Nat
def OI (x:XC):CV:=(x.1,x.2.2.1,x.2.1.length,x.2.2.2)
def fX (x:XC):List Value:=[.int .i64 x.1, .slice x.2.2.1 x.2.1.length x.2.2.2]
theorem CQ (x:XC): ∀ u∈fX x,u.oneCell'=true:=by simp [fX,Value.oneCell']
def wS (x:XC):eU:=(x.1,x.2.1)
def sI (x:XC):List Int:=x.2.1.map fun n:Nat=>(n:Int)
def slV (x:XC):Value:= .slice x.2.2.1 x.2.1.length x.2.2.2
def pF (x:XC):Ent:=own (slV x) 3 1 x.2.1.length (flat fI (sI x))
def anK (x:XC):Value×List (List Value):=(slV x,(sI x).map fI)
theorem aEV (x:XC):(pF x).jF=true:=rfl
instance {x : XC} {L : List Ent} [hl : XL L] : XL (pF x :: L) := ⟨fun g hg => by
 rcases al.1 hg with rfl|hg
 ·rfl
 ·exact hl.h g hg⟩
instance {l L : List Ent} [hl : XL L] : XL (mP l :: L) := ⟨fun g hg => by
 rcases al.1 hg with rfl|hg
 ·rfl
 ·exact hl.h g hg⟩
theorem arR (xs:List XC):flat fC (xs.map OI)=flat fX xs:=by
 unfold flat;rw[adz];rfl
instance:Key XC:=⟨fun x=>x.1⟩
theorem arS (x:XC): ∀ l:List XC,(ins x l).map OI=ins (OI x) (l.map OI)
 |[]=>rfl
 |y::l=>by
  rw[ins,gd,ins];by_cases h:kf x≤kf y
  ·rw[Jg h,Jg (show kf (OI x)≤kf (OI y) from h)];rfl
  ·rw[Jf h,Jf (show ¬ kf (OI x)≤kf (OI y) from h),gd,arS x l]
theorem pK {α:Type} (f:α→List Value) (a b:List α):flat f (a++b)=flat f a++flat f b:=by
 unfold flat;rw[ads,List.flatten_append]
theorem aiW: ∀ l:List XC,(aR l).map OI=aR (l.map OI)
 |[]=>rfl
 |x::l=>by rw[aR,arS,aiW l];rfl
def mgX (x:XC) (a:List XC) (r:List XC→List XC):List XC→List XC
 |[]=>x::a
 |y::b=>if x.1≤y.1 then x::r (y::b) else y::mgX x a r b
def OJ:List XC→List XC→List XC
 |[],b=>b
 |x::a,b=>mgX x a (OJ a) b
theorem adN (a:List XC):OJ a []=a:=by cases a<;>rfl
theorem anL {x y:XC} {a b:List XC} (h:x.1≤y.1):OJ (x::a) (y::b)=x::OJ a (y::b):=Jg h
theorem anM {x y:XC} {a b:List XC} (h: ¬ x.1≤y.1):OJ (x::a) (y::b)=y::OJ (x::a) b:=Jf h
theorem arT: ∀ a b:List XC,(OJ a b).map wS=merged (a.map wS) (b.map wS):=by
 intro a;induction a with
 |nil=>intro b;rfl
 |cons x a iha=>
  intro b;induction b with
  |nil=>rw[adN,gu,vY]
  |cons y b ihb=>
   by_cases h:x.1≤y.1
   ·rw[anL h,gd,gd,gd,zH (x:=wS x) (y:=wS y) h,iha];rfl
   ·rw[anM h,gd,gd,gd,zJ (x:=wS x) (y:=wS y) h,ihb];rfl
theorem aLT: ∀ {a b:List XC} {z:XC},z∈OJ a b↔z∈a∨z∈b:=by
 intro a;induction a with
 |nil=>intro b z;simp [OJ]
 |cons x a iha=>
  intro b;induction b with
  |nil=>intro z;rw[adN];simp
  |cons y b ihb=>
   intro z;by_cases h:x.1≤y.1
   ·rw[anL h,al,iha,al,al];constructor
    ·rintro (h|h|h|h)
     ·exact .inl (.inl h)
     ·exact .inl (.inr h)
     ·exact .inr (.inl h)
     ·exact .inr (.inr h)
    ·rintro ((h|h)|h|h)
     ·exact .inl h
     ·exact .inr (.inl h)
     ·exact .inr (.inr (.inl h))
     ·exact .inr (.inr (.inr h))
   ·rw[anM h,al,ihb,al,al];constructor
    ·rintro (h|(h|h)|h)
     ·exact .inr (.inl h)
     ·exact .inl (.inl h)
     ·exact .inl (.inr h)
     ·exact .inr (.inr h)
    ·rintro ((h|h)|h|h)
     ·exact .inr (.inl (.inl h))
     ·exact .inr (.inl (.inr h))
     ·exact .inl h
     ·exact .inr (.inr h)
theorem arU (a b:List XC):(OJ a b).length=a.length+b.length:=by
 have h:=congrArg adu (arT a b);rw[gp,CO,gp,gp] at h;exact h
def gA (F:List Int):Prop:=F.length≤320∧ ∀ f∈F,0≤f∧f≤1048576
def OL:List Int→Int
 |[]=>0
 |f::F=>if f<0 then 1 else if 1048576<f then 2 else OL F
def CS (F:List Int):Int:=if 320<F.length then 2 else OL F
theorem aLU {F:List Int} {k:Nat} {f:Int} (hf:F[k]? =some f):OL (F.drop k)=if f<0 then 1 else if 1048576<f then 2 else OL (F.drop (k+1)):=by
 obtain⟨h2,h3⟩:=aj.1 hf;rw[bh h2,h3,OL]
theorem aaZ: ∀ {F:List Int},OL F=0↔ ∀ f∈F,0≤f∧f≤1048576
 |[]=>by simp [OL]
 |f::F=>by
  rw[OL];split
  ·constructor
   ·intro h;cases h
   ·intro h;have:=h f bu;omega
  ·split
   ·constructor
    ·intro h;cases h
    ·intro h;have:=h f bu;omega
   ·rw[aaZ];constructor
    ·intro h x hx;rcases al.1 hx with rfl|hx
     ·omega
     ·exact h x hx
    ·exact fun h x hx=>h x (a8 _ hx)
theorem pL {F:List Int}:CS F=0↔gA F:=by
 unfold CS gA;split
 ·constructor
  ·intro h;cases h
  ·intro h;omega
 ·rw[aaZ];exact⟨fun h=>⟨Z8,h⟩,fun h=>h.2⟩
attribute [local irreducible] box own sl bL aH bJ Qt cN cM dG dL eQ
theorem bP (q:Option Addr) (c:Nat) (F:List Int) (hl:F.length≤1000000000000000):
  Ct lk 349 [.slice q F.length c] [sl 1 (.slice q F.length c) (F.map fI)] fun v H'=>v= .int .i64 (CS F)∧H'=[]:=by
 by_cases h:320<F.length
 ·have e:CS F=2:=by unfold CS;rw[Jg h]
  rw[e];(refine Ye Tryz.func349 Tryz.ntmps349 ?_;intro Fr);refine bM ?_;exact Ea (x:=⟨rfl,rfl⟩)
 ·have e:CS F=OL F:=by unfold CS;rw[Jf h]
  rw[e];(refine Ye Tryz.func349 Tryz.ntmps349 ?_;intro Fr);refine bM ?_;(refine cU (σ:=Nat) (fun k=>k≤F.length∧OL F=OL (F.drop k)) (fun k=>[(10, .int .i64 (k:Int))]) (fun k=>F.length-k) (0) ZD Ze (fun k ⟨hk,hb⟩=> ?_);refine Da ?_);rcases dW F k with⟨f,hf,hlt⟩|zy
  ·have h1:=aLU hf;rw[←hb] at h1;rcases aed f 0 with g|g
   ·rw[Jg g] at h1;refine bM ?_;exact Ea (x:=⟨by rw[h1],rfl⟩)
   ·rw[Jf Z8] at h1;rcases aed 1048576 f with g2|g2
    ·rw[Jg g2] at h1;refine bM ?_;exact Ea (x:=⟨by rw[h1],rfl⟩)
    ·rw[Jf Z8] at h1;refine bM ?_;refine Ee (k+1) ?_ ?_
     ·exact⟨hlt,h1⟩
     ·omega
  ·have h1:OL F=0:=by rw[hb,List.drop_of_length_le zy];rfl
   refine bM ?_;exact Ea (x:=⟨by rw[h1],rfl⟩)
theorem anN (qa qb:Option Addr) (ca cb:Nat) (X Y:List XC) (hX:X.length≤1000000) (hY:Y.length≤1000000):
  Ct lk 353 [.slice qa X.length ca, .slice qb Y.length cb] [sl 2 (.slice qa X.length ca) (X.map fX),sl 2 (.slice qb Y.length cb) (Y.map fX)]
   fun v H'=> ∃ q c,v= .slice q (OJ X Y).length c∧H'=[own (.slice q (OJ X Y).length c) 437 2 (OJ X Y).length (flat fX (OJ X Y))]:=by
 have hone:=CQ;(refine Ye Tryz.func353 Tryz.ntmps353 ?_;intro Fr);refine bM ?_;refine aO (aS _ 437 2) ?_;(refine aC (σ:=List XC×Option Addr×Nat×List XC×Option Addr×Nat×List XC×Option Addr×Nat) (fun s=>(OJ X Y=s.2.2.2.2.2.2.1++OJ s.1 s.2.2.2.1)∧(s.1.length≤1000000∧s.2.2.2.1.length≤1000000)) (fun s=>[(0, .slice s.2.1 s.1.length s.2.2.1),(1, .slice s.2.2.2.2.1 s.2.2.2.1.length s.2.2.2.2.2.1),(5, .slice s.2.2.2.2.2.2.2.1 s.2.2.2.2.2.2.1.length s.2.2.2.2.2.2.2.2)]) (fun s=>[own (.slice s.2.2.2.2.2.2.2.1 s.2.2.2.2.2.2.1.length s.2.2.2.2.2.2.2.2) 437 2 s.2.2.2.2.2.2.1.length (flat fX s.2.2.2.2.2.2.1),sl 2 (.slice s.2.1 s.1.length s.2.2.1) (s.1.map fX),sl 2 (.slice s.2.2.2.2.1 s.2.2.2.1.length s.2.2.2.2.2.1) (s.2.2.2.1.map fX)]) _ (fun s=>s.1.length+s.2.2.2.1.length) ((X,qa,ca,Y,qb,cb,[],none,0)) (by exact⟨rfl,hX,hY⟩) Ze Zb (fun⟨xs,q1,c1,ys,q2,c2,zs,q,c⟩ ⟨hI,hx,hy⟩=> ?_);refine Da ?_);dsimp only at hI hx hy;have hzl:zs.length+xs.length+ys.length≤2000000:=by
  have h1:=congrArg adu hI;rw[ae,arU,arU] at h1;omega
 rcases jo xs.length with h0|h0
 ·have zx:xs=[]:=bp h0;have zy:OJ X Y=zs++xs++ys:=by rw[hI,zx,ke];rfl
  rw[zy];clear hI zy zx;refine bM ?_;(refine aL wt rfl (jA (cnt:=0) (f:=fX) (ys:=xs) rfl rfl rfl aU aU Zg CQ rfl Z8 Zl) ?_;rintro _ _ ⟨q3,c3,rfl,rfl⟩);refine iC ?_;(refine aL wt rfl (jA (cnt:=0) (f:=fX) (ys:=ys) rfl rfl rfl aU aU Zg CQ rfl Z8 Zl) ?_;rintro _ _ ⟨q4,c4,rfl,rfl⟩);rw[←pK, ←pK, ←ae, ←ae];refine iC ?_;exact Ea (x:=⟨_,_,rfl,rfl⟩)
 ·rcases jo ys.length with g0|g0
  ·have zw:ys=[]:=bp g0;have zy:OJ X Y=zs++xs++ys:=by rw[hI,zw,ke,adN]
   rw[zy];clear hI zy zw;refine bM ?_;(refine aL wt rfl (jA (cnt:=0) (f:=fX) (ys:=xs) rfl rfl rfl aU aU Zg CQ rfl Z8 Zl) ?_;rintro _ _ ⟨q3,c3,rfl,rfl⟩);refine iC ?_;(refine aL wt rfl (jA (cnt:=0) (f:=fX) (ys:=ys) rfl rfl rfl aU aU Zg CQ rfl Z8 Zl) ?_;rintro _ _ ⟨q4,c4,rfl,rfl⟩);rw[←pK, ←pK, ←ae, ←ae];refine iC ?_;exact Ea (x:=⟨_,_,rfl,rfl⟩)
  ·obtain⟨x,zv⟩: ∃ x,xs[0]? =some x:=⟨_,ak h0⟩;obtain⟨y,zu⟩: ∃ y,ys[0]? =some y:=⟨_,ak g0⟩;have ex:xs=x::xs.drop 1:=by
    cases xs with
    |nil=>cases zv
    |cons a l=>cases zv;rfl
   have ey:ys=y::ys.drop 1:=by
    cases ys with
    |nil=>cases zu
    |cons a l=>cases zu;rfl
   have dx:(xs.drop 1).length=xs.length-1:=bq;have dy:(ys.drop 1).length=ys.length-1:=bq;by_cases zt:x.1≤y.1
   ·have hN:OJ X Y=(zs++[x])++OJ (xs.drop 1) ys:=by
     rw[hI,ex,ey,anL zt, ←ey,fu];rfl
    clear hI ex ey;refine kB ?_;(refine aD (Hq:=[_,_]) [1,2] [] rfl Jd Za ?_);refine sO ?_;(refine aD (Hq:=[_,_]) [1,2] [] rfl Jd Za ?_);refine jV ?_;(refine aB 7 ?_;refine bN _ rfl rfl wt Je kA rfl (uE (i:=1) rfl rfl rfl rfl Z8) ?_);(refine aB 4 ?_;refine Oa (l:=by exact aT rfl rfl rfl Zp rfl rfl Z9 rfl) (k:= ?_);rintro _ _ ⟨q3,rfl,rfl⟩;refine Te ?_;(try refine Da ?_));(refine aB 5 ?_;refine Oa (l:=by exact (by first|exact Ma (fX) [x] rfl|exact Mb (fX) [x] rfl)) (k:= ?_);rintro _ _ ⟨q4,c4,rfl,rfl⟩;refine Te ?_;(try refine Da ?_));refine sO ?_;refine mC (kP.refl _) (FL (i:=1) (q:=q1) (N:=xs.length) (xs:=xs) aU rfl Z8) ?_;rw[←dx];refine Ee ((xs.drop 1,KA q1 1 c1 2,c1-1,ys,q2,c2,zs++[x],q4,c4)) ?_ ?_
    ·exact⟨hN,by dsimp only;omega,hy⟩
    ·dsimp only;omega
   ·have hN:OJ X Y=(zs++[y])++OJ xs (ys.drop 1):=by
     rw[hI,ex,ey,anM zt, ←ex,fu];rfl
    clear hI ex ey;refine kB ?_;(refine aD (Hq:=[_,_]) [1,2] [] rfl Jd Za ?_);refine sO ?_;(refine aD (Hq:=[_,_]) [1,2] [] rfl Jd Za ?_);refine jV ?_;(refine aB 7 ?_;refine bN _ rfl rfl wt Je kA rfl (uE (i:=1) rfl rfl rfl rfl Z8) ?_);(refine aB 4 ?_;refine Oa (l:=by exact aT rfl rfl rfl Zp rfl rfl Z9 rfl) (k:= ?_);rintro _ _ ⟨q3,rfl,rfl⟩;refine Te ?_;(try refine Da ?_));(refine aB 5 ?_;refine Oa (l:=by exact (by first|exact Ma (fX) [y] rfl|exact Mb (fX) [y] rfl)) (k:= ?_);rintro _ _ ⟨q4,c4,rfl,rfl⟩;refine Te ?_;(try refine Da ?_));refine sO ?_;refine mC (kP.refl _) (FL (i:=1) (q:=q2) (N:=ys.length) (xs:=ys) aU rfl Z8) ?_;rw[←dy];refine Ee ((xs,q1,c1,ys.drop 1,KA q2 1 c2 2,c2-1,zs++[y],q4,c4)) ?_ ?_
    ·exact⟨hN,hx,by dsimp only;omega⟩
    ·dsimp only;omega
end eD
namespace eD
open Go.RowKit bO sl srt nE pm
theorem adO {x:XC} {tab:List XC} (h:x∈tab):(slV x,(sI x).map fI)∈tab.map anK:=acg (f:=anK) h
theorem anO (a b:XC) (l:List XC):iH ((a::b::l).map wS)=(a.1+b.1,a.2.1++b.2.1)::iH (l.map wS):=rfl
attribute [local irreducible] box own sl bL aH bJ Qt cN cM dG dL eQ
theorem aEW (q:Option Addr) (w:Int) (a b:XC) (ha:a.2.1.length≤1000000) (hb:b.2.1.length≤1000000):Ct lk 358 [.slice q 2 2] [own (.slice q 2 2) 23 1 2 [slV a,slV b],sl 1 (slV a) ((sI a).map fI),sl 1 (slV b) ((sI b).map fI)] fun v H'=> ∃ q' c',v= .slice q' (a.2.1++b.2.1).length c'∧H'=[pF (w,a.2.1++b.2.1,q',c')]:=
 alX (Go.Proofs.YtbjalbcdbgcgdaaGreat.ints.awD q 23 (slV a) (slV b) (sI a) (sI b) (by unfold sI;rw[gp,gp];omega)) fun v H' ⟨q',c',h1,h2⟩=>by
  have e:sI a++sI b=sI (w,a.2.1++b.2.1,q',c'):=by unfold sI;rw[ads]
  have el:(sI a++sI b).length=(a.2.1++b.2.1).length:=by unfold sI;simp
  rw[el] at h1 h2;rw[e] at h2;exact⟨q',c',h1,h2⟩
theorem awI (qa:Option Addr) (ca:Nat) (X tab:List XC) (hX:X.length≤1000000) (hm: ∀ x∈X,x∈tab) (hw: ∀ x∈X,0≤x.1∧x.1≤1000000000000) (hs: ∀ x∈X,x.2.1.length≤1000000):
  Ct lk 354 [.slice qa X.length ca] [sl 2 (.slice qa X.length ca) (X.map fX),many 1 (tab.map anK)]
   fun v H'=> ∃ (ys:List XC) (q:Option Addr) (c:Nat),ys.map wS=iH (X.map wS)∧v= .slice q ys.length c∧H'=[own (.slice q ys.length c) 437 2 ys.length (flat fX ys),mP (ys.reverse.map pF)]:=by
 have hone:=CQ;(refine Ye Tryz.func354 Tryz.ntmps354 ?_;intro Fr);refine bM ?_;refine aO (aS _ 437 2) ?_;refine aO (BS _) ?_;(refine aC (σ:=Nat×List XC×Option Addr×Nat) (fun s=>(s.1=2*s.2.1.length∧s.1≤X.length+1)∧iH (X.map wS)=s.2.1.map wS++iH ((X.drop s.1).map wS)) (fun s=>[(4, .int .i64 (s.1:Int)),(3, .slice s.2.2.1 s.2.1.length s.2.2.2)]) (fun s=>[own (.slice s.2.2.1 s.2.1.length s.2.2.2) 437 2 s.2.1.length (flat fX s.2.1),mP (s.2.1.reverse.map pF)]) _ (fun s=>X.length+1-s.1) ((0,[],none,0)) (by exact⟨⟨rfl,fe _⟩,rfl⟩) Ze Zb (fun⟨i,ys,q,c⟩ ⟨⟨hi,zv⟩,hI⟩=> ?_);refine Da ?_);dsimp only at hi zv hI;by_cases hlt:i+1<X.length
 ·obtain⟨a,zy⟩: ∃ x,X[i]? =some x:=⟨_,ak Z8⟩;obtain⟨b,zx⟩: ∃ x,X[i+1]? =some x:=⟨_,ak Z8⟩;have ed:X.drop i=a::b::X.drop (i+2):=by
   obtain⟨h1,h2⟩:=aj.1 zy;obtain⟨h3,h4⟩:=aj.1 zx;rw[bh h1,h2,bh h3,h4]
  have zu:=hm a (jg zy);have zt:=hm b (jg zx);have hwa:=hw a (jg zy);have hwb:=hw b (jg zx);have zr:=adO zu;have zq:=adO zt;have CC:=fun q=>aEW q (a.1+b.1) a b (hs a (jg zy)) (hs b (jg zx))
  rw[ed,anO] at hI;have hi1:(i:Int)+1=((i+1:Nat):Int):=Z8
  have zw:(i:Int)+2=((i+2:Nat):Int):=Z8
  clear ed;refine kB ?_;refine qH 0 (σ:=Nat×Nat) (fun _=>True) (fun y=>[(5,aH y.1 0),(6,aH y.2 0)]) (fun y=>[box y.1 (fX a) 437,box y.2 (fX b) 437]) ?_ ?_<;>dsimp only[adq]
  ·(refine aD (Hq:=[_]) [2] [] rfl Jd Za ?_);refine jV ?_;(refine aB 9 ?_;refine cD 10 Jd ?_ ?_)
   ·(refine Oc (l:=by exact gV rfl) (k:= ?_);rintro _ _ ⟨b1,rfl,rfl⟩;refine Te ?_;(try refine Da ?_));(repeat' (first|refine Wk ?_|(refine Wb ?_;intro b)|fail));exact sL ((_,_)) ZT (kP.of fsa) MN
   ·(refine Oc (l:=by exact gV rfl) (k:= ?_);rintro _ _ ⟨b2,rfl,rfl⟩;refine Te ?_;(try refine Da ?_));(repeat' (first|refine Wk ?_|(refine Wb ?_;intro b)|fail));exact sL ((_,_)) ZT (kP.of fsa) MN
  ·rintro⟨b5,b6⟩ _;refine Da ?_;refine iC ?_;(refine aD (Hq:=[_,_]) [0,1] [] rfl Jd Za ?_);refine jV ?_;(refine aB 10 ?_;refine Oa (l:=by exact aT rfl rfl rfl Zp rfl rfl Z9 rfl) (k:= ?_);rintro _ _ ⟨q3,rfl,rfl⟩;refine Te ?_;(try refine Da ?_));(refine aB 11 ?_;refine jH _ Jb Jb Jd wt Jb (bG rfl (CC _) rfl (Lp.out aU (Lp.view (oW _ _ _) (Lp.view (oW _ _ _) Lp.nil (aaF aU zq)) (aaF aU zr)))) ?_;rintro _ _ ⟨_,⟨q4,c4,rfl,rfl⟩,rfl⟩;refine⟨(by first|exact fun h=>absurd h Z9|exact fun _=>kA), ?_⟩;(try dsimp only[dw,dz]));refine jV ?_;(refine aB 13 ?_;refine Oa (l:=by exact aT rfl rfl rfl Zp rfl rfl Z9 rfl) (k:= ?_);rintro _ _ ⟨q5,rfl,rfl⟩;refine Te ?_;(try refine Da ?_));(refine aB 14 ?_;refine Oa (l:=by exact (by first|exact Ma (fX) [((a.1+b.1,a.2.1++b.2.1,q4,c4):XC)] rfl|exact Mb (fX) [((a.1+b.1,a.2.1++b.2.1,q4,c4):XC)] rfl)) (k:= ?_);rintro _ _ ⟨q6,c6,rfl,rfl⟩;refine Te ?_;(try refine Da ?_));refine sO ?_;rw[zw];refine mC (kP.refl _) (JX (e:=pF (a.1+b.1,a.2.1++b.2.1,q4,c4)) aU aU (aEV _)) ?_;rw[show pF (a.1+b.1,a.2.1++b.2.1,q4,c4)::ys.reverse.map pF=((ys++[((a.1+b.1,a.2.1++b.2.1,q4,c4):XC)]).reverse).map pF by rw[ady];rfl];refine Ee ((i+2,ys++[(a.1+b.1,a.2.1++b.2.1,q4,c4)],q6,c6)) ?_ ?_
   ·refine⟨⟨by dsimp only;rw[ae,gk];omega,by dsimp only;omega⟩, ?_⟩;rw[hI,ads,fu];rfl
   ·dsimp only;omega
 ·have hd:iH ((X.drop i).map wS)=[]:=by
   have hl:(X.drop i).length=X.length-i:=bq;rcases zn:X.drop i with _|⟨a,_|⟨b,l⟩⟩
   ·rfl
   ·rfl
   ·rw[zn] at hl;simp only[dv] at hl;omega
  rw[hd,ke] at hI;clear hd;refine bM ?_;exact Ea (x:=⟨ys,q,c,hI.symm,rfl,rfl⟩)
end eD
namespace eD
open Go.RowKit bO sl srt nE pm
instance aUV:Key eU:=⟨fun c=>c.1⟩
theorem arV (x:XC): ∀ l:List XC,(ins x l).map wS=ins (wS x) (l.map wS)
 |[]=>rfl
 |y::l=>by
  rw[ins,gd,ins];by_cases h:kf x≤kf y
  ·rw[Jg h,Jg (show kf (wS x)≤kf (wS y) from h)];rfl
  ·rw[Jf h,Jf (show ¬ kf (wS x)≤kf (wS y) from h),gd,arV x l]
theorem aiX: ∀ l:List XC,(aR l).map wS=aR (l.map wS)
 |[]=>rfl
 |x::l=>by rw[aR,arV,aiX l];rfl
theorem aiY {α:Type} [Key α] (x:α): ∀ l:List α,(ins x l).Perm (x::l)
 |[]=>ja _
 |y::l=>by
  rw[ins];split
  ·exact ja _
  ·exact ((aiY x l).cons y).trans (kj x y l)
theorem CW {α:Type} [Key α]: ∀ l:List α,(aR l).Perm l
 |[]=>ja _
 |x::l=>(aiY x _).trans ((CW l).cons x)
def wF (F:List Int) (i:Nat):Int:=F.getD i 0
def fN (F:List Int) (n:Nat):List Nat:=(mn n).filter fun i=>decide (0<wF F i)
theorem TW {F:List Int} {n:Nat} (h:0<wF F n):fN F (n+1)=fN F n++[n]:=by
 unfold fN;rw[aec,fo];simp [h]
theorem TX {F:List Int} {n:Nat} (h: ¬ 0<wF F n):fN F (n+1)=fN F n:=by
 unfold fN;rw[aec,fo];simp [h]
def tK (F:List Int):List Nat:=(aR (single (wF F) (fN F F.length))).map fun c=>c.2.headD 0
theorem TY (F:List Int):aR (single (wF F) (fN F F.length))=single (wF F) (tK F):=by
 unfold tK;have h: ∀ c∈aR (single (wF F) (fN F F.length)),c=(wF F (c.2.headD 0),[c.2.headD 0]):=fun c hc=>by
  obtain⟨i,_,rfl⟩:=fa.1 ((CW _).mem_iff.1 hc);rfl
 generalize aR (single (wF F) (fN F F.length))=l at h;unfold single;rw[adz];induction l with
 |nil=>rfl
 |cons c l ih=>
  rw[gd, ←ih fun d hd=>h d (a8 _ hd)];congr 1;exact h c bu
theorem GS (F:List Int):(tK F).Perm (fN F F.length):=by
 have h:=(CW (single (wF F) (fN F F.length))).map fun c=>c.2.headD 0
 have e:(single (wF F) (fN F F.length)).map (fun c=>c.2.headD 0)=fN F F.length:=by
  unfold single;rw[adz];exact List.map_id' _
 rw[e] at h;exact h
theorem abA (F:List Int) (n:Nat):(fN F n).Nodup:=List.nodup_range.filter _
theorem zP {F:List Int} {n i:Nat}:i∈fN F n↔i<n∧0<wF F i:=by
 unfold fN;rw[List.mem_filter,List.mem_range,decide_eq_true_eq]
theorem adP (F:List Int) (n:Nat):(fN F n).length≤n:=by
 have:=List.length_filter_le (fun i=>decide (0<wF F i)) (mn n);rwa [List.length_range] at this
def CX (N:Nat) (S:List Nat):List Int:=(mn N).map fun i=>((abr i S:Nat):Int)
theorem PH (N:Nat) (S:List Nat):(CX N S).length=N:=by simp [CX]
theorem KQ {N i:Nat} (S:List Nat) (h:i<N):(CX N S)[i]? =some ((abr i S:Nat):Int):=by
 unfold CX;rw[dp,abn h];rfl
theorem adQ (N:Nat):CX N []=du N 0:=by
 unfold CX;apply ep;intro k;rw[dp,adt];rcases ig k N with h|h
 ·rw[abn h,Jg h];rfl
 ·rw[je Z6,Jf Z8];rfl
theorem arW {N i:Nat} (S:List Nat) (h:i<N):(CX N S).set i (((abr i S:Nat):Int)+1)=CX N (S++[i]):=by
 apply ep;intro k;rw[List.getElem?_set];rcases ig k N with hk|hk
 ·by_cases e:i=k
  ·subst e;rw[Jg rfl,Jg (by rw[PH];exact h),KQ _ h];simp [aea]
  ·rw[Jf e,KQ _ hk,KQ _ hk];simp [aea,e]
 ·rw[je (by rw[PH];exact hk),Jf Z8,je (by rw[PH];exact hk)]
def eM (F:List Int) (most:Int):Int:=if CS F≠0 then CS F else if most<1∨15<most then 1 else if 2^most.toNat<(fN F F.length).length then 6 else 0
def kW (F:List Int) (most:Int):List Int:=if (tK F).length<2 then CX F.length (fN F F.length) else CX F.length (dB ((lists (single (wF F) (tK F)) (most.toNat-1)).take (2*(tK F).length-2)))
theorem uP (F:List Int) (most:Int):(kW F most).length=F.length:=by unfold kW;split<;>exact PH _ _
theorem CY {F:List Int} {most:Int} (h:eM F most=0):gA F∧1≤most∧most≤15∧(fN F F.length).length≤2^most.toNat:=by
 unfold eM at h;split at h
 ·rename_i h1;exact absurd h h1
 ·rename_i h1;split at h
  ·cases h
  ·split at h
   ·cases h
   ·exact⟨pL.1 ZC,Z8,Z8,Z8⟩
def CZ (N k:Nat) (c:eU):Prop:=(c.2.length≤2^k∧ ∀ i∈c.2,i<N)∧0≤c.1∧c.1≤1048576*((2^k:Nat):Int)
theorem aLV {N k:Nat} {c:eU} (h:CZ N k c):CZ N (k+1) c:=by
 obtain⟨⟨h1,h2⟩,h3,h4⟩:=h;have e:(2:Nat)^(k+1)=2^k*2:=n8 2 k;have:=aaf k;exact⟨⟨Z8,h2⟩,h3,by rw[e];omega⟩
theorem anP {N k:Nat}: ∀ l:List eU,(∀ c∈l,CZ N k c)→ ∀ c∈iH l,CZ N (k+1) c:=by
 refine nC (fun _ c hc=>by cases hc) (fun _ _ c hc=>by cases hc) fun a b l ih h c hc=> ?_
 rw[iH] at hc;rcases al.1 hc with rfl|hc
 ·obtain⟨⟨a1,a2⟩,a3,a4⟩:=h a bu;obtain⟨⟨b1,b2⟩,b3,b4⟩:=h b (a8 _ bu);have e:(2:Nat)^(k+1)=2^k*2:=n8 2 k;refine⟨⟨?_,fun i hi=> ?_⟩, ?_, ?_⟩
  ·dsimp only;rw[ae];omega
  ·rcases ei.1 hi with hi|hi
   ·exact a2 i hi
   ·exact b2 i hi
  ·dsimp only;omega
  ·dsimp only;rw[e];omega
 ·exact ih (fun c hc=>h c (a8 _ (a8 _ hc))) c hc
theorem TZ {N:Nat} {s:List eU} (h: ∀ c∈s,CZ N 0 c): ∀ k, ∀ c∈lists s k,CZ N k c
 |0=>h
 |k+1=>fun c hc=>by
  have hs: ∀ k, ∀ c∈s,CZ N k c:=fun k=>by
   induction k with
   |zero=>exact h
   |succ k ih=>exact fun c hc=>aLV (ih c hc)
  rcases ei.1 ((lK _ _).mem_iff.1 hc) with hc|hc
  ·exact hs (k+1) c hc
  ·exact anP _ (TZ h k) c hc
theorem NI (s:List eU): ∀ k,(lists s k).length≤2*s.length
 |0=>by rw[lists];omega
 |k+1=>by
  have:=NI s k;rw[KM];omega
theorem aiZ {F:List Int} (h:gA F): ∀ c∈single (wF F) (tK F),CZ F.length 0 c:=fun c hc=>by
 obtain⟨i,hi,rfl⟩:=fa.1 hc;obtain⟨h1,h2⟩:=zP.1 ((GS F).mem_iff.1 hi);obtain⟨f,hf⟩: ∃ f,F[i]? =some f:=⟨_,ak h1⟩;have e:wF F i=f:=by unfold wF;rw[my,hf];rfl
 have hg:=h.2 f (jg hf);refine⟨⟨df _,fun j hj=>by rw[eh.1 hj];exact h1⟩, ?_, ?_⟩
 ·dsimp only;omega
 ·dsimp only;rw[e,Nat.pow_zero];omega
end eD
namespace eD
open Go.RowKit bO sl srt nE pm
section
variable {P:Program} {n:Nat} {F:eE} {H:List Ent} {o:Oper} {x y:Operand} {T:TypeId}
theorem UA {k':IntKind} {i j r:Int} {m:Nat} {T':TypeId} (ho:o.op= .binOp .shl T x y T') (hx:ev F x=some (.int .i64 i)) (hy:ev F y=some (.int k' j)) (hj:j=(m:Int)) (hm:m≤62) (hr:kx.wrap (i*2^m)=r):Qt P n o F H (.int .i64 r):=
 aBD (hp:=⟨by rw[hj];rfl,Z8,Z8⟩) ho hx hy (Nat.ble_eq_true_of_le (by simp [jm];omega)) hr
end
def aLW (b:Nat):Ent:=box b [.func (.func 352) #[] #[]] 441
instance {b : Nat} {L : List Ent} [hl : XL L] : XL (aLW b :: L) := ⟨fun g hg => by
 rcases al.1 hg with rfl|hg
 ·rfl
 ·exact hl.h g hg⟩
theorem aEX {S R : List Ent} {b : Nat} (p : bQ (aLW b) S R) : View S (KB b) := ⟨rfl, fun w hw => by
 have h := hw.1 _ p.mem;exact h, fun k hk => ⟨_, p.mem, hk⟩⟩
theorem aLX (x:XC):pF x=own (slV x) 3 1 (sI x).length (flat fI (sI x)):=by
 unfold pF sI;rw[gp]
theorem NJ {H R:List Ent} {tab:List XC} (p:bQ (mP (tab.map pF)) H R):HSub H (many 1 (tab.map anK)::R):=
 uD p (ahB (vv:=slV) (xs:=sI) (f:=fI) (rw:=pF) (tab:=tab) bQ.here aLX (fun _=>rfl) tab (fun r h=>h))
def UB (F:List Int) (most:Int) (v:Value) (H':List Ent):Prop:=
 (eM F most=0∧ ∃ q c,v= .tuple #[.slice q F.length c, .int .i64 0]∧H'=[own (.slice q F.length c) 3 1 F.length (flat fI (kW F most))])∨
 (eM F most≠0∧v= .tuple #[.slice none 0 0, .int .i64 (eM F most)]∧H'=[])
def adR (F:List Int) (i:Nat) (S:List XC):Prop:=S.map wS=single (wF F) (fN F i)
theorem ajA {F:List Int} {i:Nat} {S:List XC} {f:Int} {q:Option Addr} (h:adR F i S) (hf:F[i]? =some f) (h0:0<f):adR F (i+1) (S++[(f,[i],q,1)]):=by
 have e:wF F i=f:=by unfold wF;rw[my,hf];rfl
 unfold adR at h ⊢;rw[TW Z8,ads,h];unfold single;rw[ads, ←e];rfl
theorem ajB {F:List Int} {i:Nat} {S:List XC} {f:Int} (h:adR F i S) (hf:F[i]? =some f) (h0: ¬ 0<f):adR F (i+1) S:=by
 have e:wF F i=f:=by unfold wF;rw[my,hf];rfl
 unfold adR at h ⊢;rw[TX Z8,h]
theorem aEY {F:List Int} {i:Nat} {S:List XC} (h:adR F i S):S.length=(fN F i).length:=by
 have:=congrArg adu h;rw[gp,rU] at this;exact this
theorem ajC {B:Nat}: ∀ {l:List eU},(∀ c∈l,c.2.length≤B)→(dB l).length≤B*l.length
 |[],_=>fe _
 |c::l,h=>by
  have h1:=h c bu;have h2:=ajC (l:=l) fun d hd=>h d (a8 _ hd)
  unfold dB at h2 ⊢;rw[abw,ae,dv,Nat.mul_succ];omega
attribute [local irreducible] box own sl bL aH bJ Qt cN cM dG dL eQ
theorem aRL:Ct lk 351 [.func (.func 352) #[] #[]] [] fun v H'=> ∃ b,v=wB b∧H'=[aLW b]:=by
 unfold aLW wB;(refine Ye Tryz.func351 Tryz.ntmps351 ?_;intro Fr);(refine bF ?_;intro b);exact Ea (x:=⟨_,rfl,rfl⟩)
theorem aEZ (q:Option Addr) (c:Nat) (F:List Int) (most:Int) (hl:F.length≤1000000000000000) (h: ¬ (CS F=0∧1≤most∧most≤15)):
  Ct lk 339 [.slice q F.length c, .int .i64 most] [sl 1 (.slice q F.length c) (F.map fI)] (UB F most):=by
 have CK:=bP q c F hl;by_cases hk:CS F=0
 ·have e:eM F most=1:=by unfold eM;rw[Jf (by rw[hk];simp),Jg Z8]
  have R0:UB F most (.tuple #[.slice none 0 0, .int .i64 1]) []:= .inr ⟨by rw[e];decide,by rw[e],rfl⟩;rw[hk] at CK;(refine Ye Tryz.func339 Tryz.ntmps339 ?_;intro Fr);(repeat' (first|refine Y3 ?_|refine Wc (CK ..) ?_|(refine Ws ?_ ?_<;>intro h)|fail));all_goals first|(exfalso;omega)|exact Ea (x:=R0)
 ·have e:eM F most=CS F:=by unfold eM;rw[Jg hk]
  have R0:UB F most (.tuple #[.slice none 0 0, .int .i64 (CS F)]) []:= .inr ⟨by rw[e];exact hk,by rw[e],rfl⟩;generalize CS F=ce at*;(refine Ye Tryz.func339 Tryz.ntmps339 ?_;intro Fr);refine ER ?_;exact Ea (x:=R0)
theorem awJ (q:Option Addr) (c:Nat) (F:List Int) (m:Nat) (h:gA F) (hm:m≤14):
  Ct lk 339 [.slice q F.length c, .int .i64 ((m+1:Nat):Int)] [sl 1 (.slice q F.length c) (F.map fI)] (UB F ((m+1:Nat):Int)):=by
 have hl:=h.1;have CK:=bP q c F Z8;rw[pL.2 h] at CK;have hone:=CQ;have zl:2^(m+1)≤32768:=gm (mr Z9 (by omega:m+1≤15)) Z9;have zk:=aaf (m+1);have z7:kx.wrap (1*2^(m+1))=((2^(m+1):Nat):Int):=by
  rw[Int.one_mul,show ((2:Int)^(m+1))=((2^(m+1):Nat):Int) by simp];exact tC Z8
 have yz:((m+1:Nat):Int).toNat=m+1:=Z8
 obtain⟨w,hw⟩: ∃ w,2^(m+1)=w:=⟨_,rfl⟩;rw[hw] at zl zk z7;have hpl:=adP F F.length;have R6:w<(fN F F.length).length→UB F ((m+1:Nat):Int) (.tuple #[.slice none 0 0, .int .i64 6]) []:=fun g=>by
  have e:eM F ((m+1:Nat):Int)=6:=by
   unfold eM;rw[Jf (by rw[pL.2 h];simp),Jf Z8,yz,Jg (by rw[hw];exact g)]
  exact .inr ⟨by rw[e];decide,by rw[e],rfl⟩
 have R0: ¬ w<(fN F F.length).length→ ∀ q c,UB F ((m+1:Nat):Int) (.tuple #[.slice q F.length c, .int .i64 0]) [own (.slice q F.length c) 3 1 F.length (flat fI (kW F ((m+1:Nat):Int)))]:=fun g q c=>by
  have e:eM F ((m+1:Nat):Int)=0:=by
   unfold eM;rw[Jf (by rw[pL.2 h];simp),Jf Z8,yz,Jf (by rw[hw];exact g)]
  exact .inl ⟨e,q,c,rfl,rfl⟩
 (refine Ye Tryz.func339 Tryz.ntmps339 ?_;intro Fr);refine ER ?_;refine aO (aS _ 437 2) ?_;refine aO (BS _) ?_;(refine aC (σ:=Nat×List XC×Option Addr×Nat) (fun s=>s.1≤F.length∧adR F s.1 s.2.1) (fun s=>[(29, .int .i64 (s.1:Int)),(7, .slice s.2.2.1 s.2.1.length s.2.2.2)]) (fun s=>[own (.slice s.2.2.1 s.2.1.length s.2.2.2) 437 2 s.2.1.length (flat fX s.2.1),mP (s.2.1.reverse.map pF)]) _ (fun s=>F.length-s.1) ((0,[],none,0)) ZD Ze Zb (fun⟨i,S,q1,c1⟩ ⟨hi,hS⟩=> ?_);refine Da ?_);dsimp only at hi hS;have zv:=aEY hS;have hpi:=adP F i;rcases dW F i with⟨f,hf,hlt⟩|yi
 ·have hgf:=h.2 f (jg hf);by_cases h0:0<f
  ·have hN:=fun q=>ajA (q:=q) hS hf h0
   clear R6 R0;(repeat' (first|refine Y3 ?_|(refine Wq ?_;intro q)|fail));refine aL wt rfl (by first|exact Ma (fX) [((f,[i],_,1):XC)] rfl|exact Mb (fX) [((f,[i],_,1):XC)] rfl) ?_;rintro _ _ ⟨q5,c5,rfl,rfl⟩;rename_i qi;refine aN (JX (e:=pF (f,[i],qi,1)) aU aU (aEV _)) ?_;rw[show pF (f,[i],qi,1)::S.reverse.map pF=((S++[((f,[i],qi,1):XC)]).reverse).map pF by rw[ady];rfl];refine iC ?_;refine Ee ((i+1,S++[(f,[i],qi,1)],q5,c5)) ?_ ?_
   ·exact⟨hlt,hN qi⟩
   ·dsimp only;omega
  ·have hN:=ajB hS hf h0;clear R6 R0;refine bM ?_;refine Ee ((i+1,S,q1,c1)) ?_ ?_
   ·exact⟨hlt,hN⟩
   ·dsimp only;omega
 ·have yh:i=F.length:=Z8
  subst yh;refine bM ?_;refine eK wt rfl (UA rfl rfl rfl rfl Z8 z7) ?_;by_cases zy:w<(fN F F.length).length
  ·have R1:=R6 zy;clear R6 R0;refine bM ?_;exact Ea (x:=R1)
  ·have R1:=R0 zy;clear R6 R0;have hover2:(fN F F.length).length≤w:=Z8
   refine bM ?_;refine aL wt rfl (dH (fI) (0) (c:=F.length) rfl rfl rfl Zf Zf rfl rfl Z8 Zi) ?_;rintro _ _ ⟨qo,rfl,rfl⟩;refine aN (NJ aU) ?_;rcases ig S.length 2 with h2|h2
   ·have zu:(tK F).length=S.length:=by rw[(GS F).length_eq,zv]
    have eL:kW F ((m+1:Nat):Int)=CX F.length (fN F F.length):=by unfold kW;rw[Jg Z8]
    rw[eL] at R1;by_cases h1:S.length=1
    ·obtain⟨x,zn⟩: ∃ x,S=[x]:=l8.1 h1;obtain⟨j,zj⟩: ∃ j,fN F F.length=[j]:=l8.1 (by rw[←zv,h1]);have yx:wS x=(wF F j,[j]):=by
      unfold adR at hS;rw[zn,zj] at hS;unfold single at hS;simp only[gd,gu,List.cons.injEq,and_true] at hS;exact hS
     have yv:j<F.length:=(zP.1 (by rw[zj];exact eh.2 rfl:j∈fN F F.length)).1;obtain⟨f,sg,qx,cx⟩:=x;have yg:sg=[j]:=congrArg (fun y:eU=>y.2) yx;subst yg;rw[zj, ←dz [j], ←arW [] yv,adQ] at R1;have hz:(du F.length (0:Int))[j]? =some 0:=by rw[adt,Jg yv]
     have zt:(du F.length (0:Int)).set j (((abr j []:Nat):Int)+1)=(du F.length (0:Int)).set j 1:=rfl;rw[zt] at R1;have h00:([(j:Int)]:List Int)[0]? =some (j:Int):=rfl;have hx0:S[0]? =some (f,[j],qx,cx):=by rw[zn];rfl
     have zr:(jw qx 1 cx,([(j:Int)]:List Int).map fI)∈(S.reverse).map anK:=by rw[zn];simp [anK,slV,sI]
     refine aN (FJ aU zr) ?_;clear hS zv eL yx zt zr zn;refine bM ?_;refine eK wt rfl (cE (i:=0) rfl rfl rfl aU rfl Z8) ?_;refine iC ?_;refine eK wt rfl (lF (i:=0) (v:= .slice qx 1 cx) rfl rfl rfl aU rfl Ja) ?_;refine iC ?_;(refine dC wt (aI (f:=fI) (q':=1) rfl rfl rfl rfl Zk rfl Z8 Zg Jc rfl rfl Jb) ?_;rintro _ _ ⟨rfl,rfl⟩);refine bM ?_;exact Ea (x:=R1 _ _)
    ·have hS0:S.length=0:=Z8
     have zk:fN F F.length=[]:=bp Z8;rw[zk,adQ] at R1;clear hS zv eL;refine bM ?_;exact Ea (x:=R1 _ _)
   ·have zu:(tK F).length=S.length:=by rw[(GS F).length_eq,zv]
    have eL:kW F ((m+1:Nat):Int)=CX F.length (dB ((lists (single (wF F) (tK F)) m).take (2*S.length-2))):=by unfold kW;rw[Jf Z8,zu];rfl
    rw[eL] at R1;have hT:(aR S).map wS=single (wF F) (tK F):=by rw[aiX,hS,TY]
    have yu:(aR S).length=S.length:=fJ S;have yf: ∀ x∈aR S,x∈S.reverse:=fun x hx=>acm.2 (nD.1 hx)
    have zx:=aiZ h;have yt: ∀ x∈S.map OI,0≤x.1∧x.1≤1000000000000:=fun x hx=>by
     obtain⟨y,hy,rfl⟩:=fa.1 hx;have h3:wS y∈single (wF F) (tK F):=by rw[←hT];exact acg (nD.2 hy)
     have h4:=(zx _ h3).2;have h5:0≤y.1∧y.1≤1048576*((2^0:Nat):Int):=h4;show 0≤y.1∧y.1≤1000000000000;omega
    have SRT:=fun kb=>aEU q1 c1 kb (S.map OI) S.length (by rw[gp]) Z8 Z8 yt
    rw[←aiW,arR,arR] at SRT;clear hS eL yt;generalize aR S=T at*;refine bM ?_;(refine Ca (aRL) ?_;rintro _ _ ⟨_,⟨kb,rfl,rfl⟩,rfl⟩;refine Da ?_);refine aL wt rfl (bG rfl (SRT kb) rfl (Lp.out aU (Lp.view (oA kb) Lp.nil (aEX aU)))) ?_;rintro _ _ ⟨_,⟨rfl,rfl⟩,rfl⟩;dsimp only[dw,dz];rw[←yu] at R1 h2;rw[←yu];have hn320:T.length≤320:=Z8
    have hTw:T.length≤w:=Z8
    have ye:((m+1:Nat):Int)-1=(m:Int):=Z8
    refine aN (bB (f:=fX) (ys:=T) aU (fun _=>rfl) rfl) ?_;clear SRT zv zy;have yr: ∀ x∈T,x∈S.reverse:=yf;generalize S.reverse=tab0 at*;refine bM ?_;rw[ye];(refine aC (σ:=Nat×List XC×Option Addr×Nat×List XC) (fun s=>(s.1≤m∧s.2.1.map wS=lists (single (wF F) (tK F)) s.1)∧((∀ x∈s.2.1,x∈s.2.2.2.2)∧ ∀ x∈T,x∈s.2.2.2.2)) (fun s=>[(73, .int .i64 (s.1:Int)),(11, .slice s.2.2.1 s.2.1.length s.2.2.2.1)]) (fun s=>[sl 2 (.slice s.2.2.1 s.2.1.length s.2.2.2.1) (s.2.1.map fX),many 1 (s.2.2.2.2.map anK)]) _ (fun s=>m-s.1) ((0,T,q1,c1,tab0)) (by exact⟨⟨fe _,hT⟩,yr,yr⟩) Ze Zb (fun⟨k,L,qL,cL,tab⟩ ⟨⟨hk,hL⟩,zh,zg⟩=> ?_);refine Da ?_);dsimp only at hk hL zh zg;have hLl:L.length≤640:=by
     have h3:=NI (single (wF F) (tK F)) k;rw[←hL, ←hT,gp,gp] at h3;omega
    have hpk:2^k≤16384:=gm (mr Z9 (by omega:k≤14)) Z9;have zf: ∀ x∈L,CZ F.length k (wS x):=fun x hx=>TZ zx k _ (by rw[←hL];exact acg hx)
    have yd: ∀ x∈L,0≤x.1∧x.1≤1000000000000:=fun x hx=>by
     have h3:0≤x.1∧x.1≤1048576*((2^k:Nat):Int):=(zf x hx).2;omega
    have ze: ∀ x∈L,x.2.1.length≤16384:=fun x hx=>by
     have h3:x.2.1.length≤2^k:=(zf x hx).1.1;omega
    rcases ig k m with hlt|yi
    ·have PR:=awI qL cL L tab Z8 zh yd fun x hx=>by have:=ze x hx;omega
     clear R1;refine bM ?_;refine aL wt rfl (bG rfl PR rfl (Lp.view (oW _ _ _) (Lp.view rfl Lp.nil (View.same aU rfl)) (View.same aU (oW _ _ _)))) ?_;rintro _ _ ⟨_,⟨ys,qy,cy,yp,rfl,rfl⟩,rfl⟩;dsimp only[dw,dz];have hyl:ys.length≤320:=by
      have h3:=congrArg adu yp;rw[gp,zK,gp] at h3;omega
     have MG:=anN q1 qy c1 cy T ys Z8 Z8;have hN:(OJ T ys).map wS=lists (single (wF F) (tK F)) (k+1):=by rw[arT,yp,hT,hL];rfl
     skip
     refine aL wt rfl (bG rfl MG rfl wY) ?_;rintro _ _ ⟨_,⟨qn,cn,rfl,rfl⟩,rfl⟩;dsimp only[dw,dz];refine aN (bB (f:=fX) (ys:=OJ T ys) aU (fun _=>rfl) rfl) ?_;refine aN (NJ (tab:=ys.reverse) aU) ?_;refine aN (ahD aU aU) ?_;rw[←ads];refine iC ?_;refine Ee ((k+1,OJ T ys,qn,cn,ys.reverse++tab)) ?_ ?_
     ·refine⟨⟨hlt,hN⟩,fun x hx=> ?_,fun x hx=>lp _ (zg x hx)⟩;rcases aLT.1 hx with hx|hx
      ·exact lp _ (zg x hx)
      ·exact List.mem_append_left _ (acm.2 hx)
     ·dsimp only;omega
    ·have yb:k=m:=Z8
     subst yb;have zb:=GI (s:=single (wF F) (tK F)) (L:=k) (by rw[←hT,gp,hw];omega);rw[←hL,gp, ←hT,gp] at zb;have zq:2*(T.length:Int)-2=((2*T.length-2:Nat):Int):=Z8
     rw[←hL] at R1;clear hL hT zx;refine bM ?_;rw[zq];refine eK wt rfl (tY rfl rfl rfl aU rfl zb) ?_;refine aN (uD aU (View.part (m:=2*T.length-2) (xs:=L) bQ.here zb)) ?_;have ya:(L.take (2*T.length-2)).length=2*T.length-2:=by rw[ar];omega
     have yo: ∀ x∈L.take (2*T.length-2),x∈L:=fun x hx=>ll hx
     rw[←jj] at R1;have za: ∀ k',(dB (((L.take (2*T.length-2)).take k').map wS)).length≤16384*640:=fun k'=>by
      refine gm (ajC (B:=16384) fun c hc=> ?_) ?_
      ·obtain⟨x,hx,rfl⟩:=fa.1 hc;exact ze x (yo x (ll hx))
      ·rw[gp,ar,ya];exact n6 (df _) Z8
     generalize 2*T.length-2=M2 at*;generalize L.take M2=M at*;rw[←adQ];refine iC ?_;(refine aC (σ:=Nat) (fun k=>k≤M2) (fun k=>[(87, .int .i64 (k:Int))]) (fun k=>[own (.slice qo F.length F.length) 3 1 F.length (flat fI (CX F.length (dB ((M.take k).map wS))))]) _ (fun k=>M2-k) (0) Zx Ze Zb (fun j hj=> ?_);refine Da ?_);rcases ig j M2 with y9|hjg
     ·obtain⟨x,ym⟩: ∃ x,M[j]? =some x:=⟨_,ak Z8⟩;have z8:=yo x (jg ym);have y8:=(zf x z8).1.2;have hx2:=ze x z8;have hSj:=za j;have zw:dB ((M.take (j+1)).map wS)=dB ((M.take j).map wS)++x.2.1:=by
       rw[ib,ym,ads];unfold dB;rw[List.flatMap_append];simp [wS]
      have hsl:(sI x).length=x.2.1.length:=by unfold sI;rw[gp]
      generalize hSS:dB ((M.take j).map wS)=SS at*;refine aO (FJ aU (adO (zh x z8))) ?_;clear R1 za;(refine bF ?_;intro b);rw[show SS=SS++x.2.1.take 0 by rw[List.take_zero,ke]];(refine aC (σ:=Nat) (fun k=>k≤x.2.1.length) (fun k=>[(94, .int .i64 (k:Int))]) (fun k=>[own (.slice qo F.length F.length) 3 1 F.length (flat fI (CX F.length (SS++x.2.1.take k)))]) _ (fun k=>x.2.1.length-k) (0) Zx Ze Zb (fun u hu=> ?_);refine Da ?_);rcases ig u x.2.1.length with zm|hug
      ·obtain⟨z,hz⟩: ∃ z,x.2.1[u]? =some z:=⟨_,ak zm⟩;have hzI:(sI x)[u]? =some (z:Int):=by unfold sI;rw[dp,hz];rfl
       have yl:z<F.length:=y8 z (jg hz);have hca:=KQ (N:=F.length) (SS++x.2.1.take u) yl;have yk:=arW (N:=F.length) (SS++x.2.1.take u) yl;have hcb:abr z (SS++x.2.1.take u)≤100000000:=by
        refine gm List.count_le_length ?_;rw[ae,ar];omega
       have yj:SS++x.2.1.take (u+1)=SS++x.2.1.take u++[z]:=by rw[ib,hz,fu];rfl
       rw[←yj] at yk;generalize abr z (SS++x.2.1.take u)=cz at*;generalize CX F.length (SS++x.2.1.take u)=CU at*;clear zw yj;refine bM ?_;(refine dC wt (aI (f:=fI) (q':=(((cz:Nat):Int)+1)) rfl rfl rfl rfl Zk rfl Z8 Zg Jc rfl rfl Jb) ?_;rintro _ _ ⟨rfl,rfl⟩);rw[yk];refine iC ?_;refine Ee (u+1) ?_ ?_
       ·exact zm
       ·omega
      ·have zm:u=x.2.1.length:=Z8
       subst zm;rw[mz, ←zw];refine bM ?_;refine Ee (j+1) ?_ ?_
       ·exact y9
       ·omega
     ·have y7:j=M2:=Z8
      subst y7;rw[bd Z8];clear za;refine bM ?_;exact Ea (x:=R1 _ _)
theorem aFA (q:Option Addr) (c:Nat) (F:List Int) (most:Int) (hl:F.length≤1000000000000000):Ct lk 339 [.slice q F.length c, .int .i64 most] [sl 1 (.slice q F.length c) (F.map fI)] (UB F most):=by
 by_cases h:CS F=0∧1≤most∧most≤15
 ·obtain⟨h1,h2,h3⟩:=h;obtain⟨m,hm⟩: ∃ m:Nat,most=((m+1:Nat):Int):=⟨most.toNat-1,Z8⟩;subst hm;exact awJ q c F m (pL.1 h1) Z8
 ·exact aEZ q c F most hl h
end eD
namespace eD
open Go.RowKit bO sl srt nE pm
def aPK (F:List Int) (M:Nat) (l:Nat→Nat):Prop:=(∀ i∈fN F F.length,1≤l i∧l i≤M)∧eY (fun i=>2^(M-l i)) (fN F F.length)≤2^M
def arX (F:List Int) (l:Nat→Nat):Int:=iP (fun i=>wF F i*(l i:Int)) (fN F F.length)
structure aFB (F:List Int) (M:Nat) (l:Nat→Nat):Prop where
 none: ∀ i,i∉fN F F.length→l i=0
 right:aPK F M l
 order: ∀ i∈fN F F.length, ∀ j∈fN F F.length,wF F i<wF F j→l j≤l i
 least: ∀ l',aPK F M l'→arX F l≤arX F l'
theorem adS {F:List Int} {most:Int} (h:eM F most=0): ∃ l:Nat→Nat,(∀ i,i<F.length→(kW F most)[i]? =some (l i:Int))∧aFB F most.toNat l:=by
 obtain⟨hg,h1,h15,hn⟩:=CY h;obtain⟨m,hm⟩: ∃ m:Nat,most=((m+1:Nat):Int):=⟨most.toNat-1,Z8⟩;subst hm;have zv:((m+1:Nat):Int).toNat=m+1:=Z8
 rw[zv] at hn ⊢;have hp:=GS F;have zu: ∀ i∈fN F F.length,0<wF F i:=fun i hi=>(zP.1 hi).2
 by_cases h2:(tK F).length<2
 ·refine⟨fun i=>abr i (fN F F.length),fun i hi=> ?_, ?_⟩
  ·unfold kW;rw[Jg h2];exact KQ _ hi
  ·have zy: ∀ i∈fN F F.length,abr i (fN F F.length)=1:=fun i hi=>by
    have h3:=List.nodup_iff_count.1 (abA F F.length) i;have h4:=List.count_pos_iff.2 hi;omega
   refine⟨fun i hi=>List.count_eq_zero.2 hi,⟨fun i hi=>by show 1≤abr i _∧abr i _≤m+1;rw[zy i hi];omega, ?_⟩,fun i hi j hj _=>by show abr j _≤abr i _;rw[zy i hi,zy j hj];exact df _,fun l' zw=> ?_⟩
   ·have e:eY (fun i=>2^(m+1-abr i (fN F F.length))) (fN F F.length)=eY (fun _=>2^m) (fN F F.length):=oN fun i hi=>by rw[zy i hi];rfl
    have hl:(fN F F.length).length≤1:=by rw[←hp.length_eq];omega
    show eY (fun i=>2^(m+1-abr i (fN F F.length))) (fN F F.length)≤_;rw[e,oO,n8];exact n6 (df _) Z8
   ·unfold arX;have zx: ∀ l:List Nat,(∀ i∈l,wF F i*((abr i (fN F F.length):Nat):Int)≤wF F i*(l' i:Int))→iP (fun i=>wF F i*((abr i (fN F F.length):Nat):Int)) l≤iP (fun i=>wF F i*(l' i:Int)) l:=fun l=>by
     induction l with
     |nil=>intro _;exact Int.le_refl _
     |cons a l ih=>
      intro h3;have h4:=h3 a bu;have h5:=ih fun i hi=>h3 i (a8 _ hi)
      simp only[iP];omega
    refine zx _ fun i hi=> ?_
    have h3:=(zw.1 i hi).1;have h4:=zu i hi;rw[zy i hi];exact Int.mul_le_mul_of_nonneg_left Z8 Z8
 ·have hs:pm.rS (single (wF F) (tK F)):=by
   have h3:=kK (single (wF F) (fN F F.length));rw[TY] at h3;exact h3
  have zt:(tK F).Nodup:=hp.nodup_iff.2 (abA F F.length);obtain⟨_,b2,b3,b4,b5,b6⟩:=aVQ (w:=wF F) (idx:=tK F) (L:=m) hs zt (fun i hi=>by have:=zu i (hp.mem_iff.1 hi);omega) Z8 (by rw[hp.length_eq];exact hn);refine⟨CP (wF F) (tK F) m,fun i hi=> ?_, ?_⟩
  ·unfold kW;rw[Jf h2,KQ _ hi];unfold CP;rw[zv];rfl
  ·refine⟨fun i hi=>b3 i fun h3=>hi (hp.mem_iff.1 h3),⟨fun i hi=>b2 i (hp.mem_iff.2 hi), ?_⟩,fun i hi j hj hw=>b5 i (hp.mem_iff.2 hi) j (hp.mem_iff.2 hj) hw,fun l' zw=> ?_⟩
   ·rw[←KN _ hp];exact b4
   ·unfold arX;rw[←aaU _ hp, ←aaU _ hp];refine b6 l' (fun i hi=>zw.1 i (hp.mem_iff.1 hi)) ?_;rw[KN _ hp];exact zw.2
end eD
namespace eD
open Go.RowKit bO sl pm
theorem ajD: ∀ {O:List Int},(∀ o∈O,0≤o∧o≤15)→lens.jB O=false
 |[],_=>rfl
 |o::O,h=>by
  have h1:=h o bu;rw[lens.jB,Jf Z8];exact ajD fun x hx=>h x (a8 _ hx)
theorem wC {O:List Int} (h: ∀ o∈O,0≤o∧o≤15) (hl:O.length≤320):lens.eM O=0:=by
 unfold lens.eM;rw[Jf Z8,ajD h];rfl
attribute [local irreducible] box own sl bL aH bJ Qt cN cM dG dL eQ
theorem aLY {F:List Int} {most:Int} (h:eM F most=0): ∀ o∈kW F most,0≤o∧o≤15:=fun o ho=>by
 obtain⟨l,hl,zy⟩:=adS h;obtain⟨_,h1,h15,_⟩:=CY h;obtain⟨i,hi⟩:=List.mem_iff_getElem?.1 ho;have zx:=(aj.1 hi).1;rw[uP] at zx;rw[hl i zx] at hi;cases hi;by_cases hp:i∈fN F F.length
 ·have:=(zy.right.1 i hp).2;omega
 ·rw[zy.none i hp];decide
end eD
namespace eD
end eD
namespace file
open Go.RowKit bO sl
def UR (ps:List (List UInt8)) (j:Nat):UInt8:=(ps.getD (j/512) []).getD (j%512) 0
def lN (n:Nat) (ps:List (List UInt8)):List UInt8:=(mn n).map (UR ps)
def iT (n:Nat) (ps:List (List UInt8)) (at' cnt:Nat):List UInt8:=(mn (min cnt (n-at'))).map fun j=>UR ps (at'+j)
theorem iI (n:Nat) (ps:List (List UInt8)):(lN n ps).length=n:=by simp [lN]
theorem axM (n:Nat) (ps:List (List UInt8)) (at' cnt:Nat):(iT n ps at' cnt).length=min cnt (n-at'):=by simp [iT]
def NO (k:Nat) (s:List UInt8):List UInt8:=if s=[] then du k 0 else s
theorem rM {n k:Nat} {ps:List (List UInt8)} {s:List UInt8} (hg:gA n ps) (hs:ps[k]? =some s):lN (min n (512*k)) ps++NO (cX n k) s=lN (min n (512*(k+1))) ps:=by
 have hk:k<aQ n:=by
  have:=(aj.1 hs).1;rwa [hg.2.1] at this
 have h5:=xR hk;have hL:(NO (cX n k) s).length=cX n k:=by
  unfold NO;split
  ·simp
  ·exact hg.2.2 k s hs ‹_›
 have hlen:min n (512*k)+cX n k=min n (512*(k+1)):=by unfold cX;omega
 refine uS (by rw[ae,iI,iI,hL,hlen]) fun j hj=> ?_
 rw[ae,iI,hL,hlen] at hj;rw[GY,iI];show _=(aee (UR ps) (mn _)).getD j 0;rw[kM _ hj];split
 ·exact kM _ ‹_›
 ·rename_i hge;have e1:j/512=k:=Z8
  have e2:j-min n (512*k)=j%512:=Z8
  unfold UR;rw[e1,e2,my (l:=ps),hs,Option.getD_some];unfold NO;split
  ·rw[ajT, ‹s=[]›];rfl
  ·rfl
theorem aoF {n at' cnt:Nat} (ps:List (List UInt8)) (h:at'≤n):((lN n ps).take (at'+min cnt (n-at'))).drop at'=iT n ps at' cnt:=by
 refine uS ?_ fun j hj=> ?_
 ·rw[bq,ar,iI,axM];omega
 ·rw[bq,ar,iI] at hj;rw[zS,getD_take,Jg Z8];show (aee (UR ps) (mn n)).getD _ 0=(aee (fun j=>UR ps (at'+j)) (mn _)).getD j 0;rw[kM _ Z8,kM _ Z8]
theorem JU {n k cnt:Nat} (ps:List (List UInt8)) (h:n≤k):iT n ps k cnt=[]:=by
 have:min cnt (n-k)=0:=Z8
 unfold iT;rw[this];rfl
end file
namespace cK
open Go.RowKit bO sl
def BB (ps:List (Int×Int)) (gs:List Int) (i:Nat):Prop:= ∃ p g,ps[i]? =some p∧gs[i]? =some g∧p.1=0∧g<2147483647
def VD (ps:List (Int×Int)) (gs:List Int) (n:Nat):Prop:=(1≤n∧n<48∧BB ps gs n∧ ∀ j,1≤j→j<n→ ¬ BB ps gs j)∨(n=0∧ ∀ j,1≤j→j<48→ ¬ BB ps gs j)
theorem take_one (ps:List (Int×Int)) (gs:List Int) (n m:Nat) (h:VD ps gs n) (h2:VD ps gs m):n=m:=by
 rcases h with⟨a1,a2,a3,a4⟩|⟨a1,a2⟩<;>rcases h2 with⟨b1,b2,b3,b4⟩|⟨b1,b2⟩
 ·rcases Nat.lt_trichotomy n m with h|h|h
  ·exact absurd a3 (b4 n a1 h)
  ·exact h
  ·exact absurd b3 (a4 m b1 h)
 ·exact absurd a3 (b2 n a1 a2)
 ·exact absurd b3 (a2 m b1 b2)
 ·omega
attribute [local irreducible] box own sl bL aH bJ Qt cN cM dG dL eQ
theorem aMW (a g:Option Addr) (ca cg:Nat) {ps:List (Int×Int)} {gs:List Int} (hw:WfM ps gs) (h:eT ps gs):
  Ct lk 144 [.agg #[.slice a ps.length ca, .slice g gs.length cg]] [sl 2 (.slice a ps.length ca) (ps.map jP),sl 1 (.slice g gs.length cg) (gs.map fI)] fun v H'=> ∃ n:Nat,VD ps gs n∧v= .tuple #[.int .i64 (n:Int), .int .i64 (if n=0 then 10 else 0)]∧H'=[]:=by
 have CK:=oL (.slice a ps.length ca) (.slice g gs.length cg) hw h;obtain⟨h1,h2,_⟩:=h;clear hw;(refine Ye Tryz.func144 Tryz.ntmps144 ?_;intro Fr);(refine yY ?_;intro b);(refine cU (σ:=Nat) (fun i=>(1≤i∧i≤48)∧ ∀ j,1≤j→j<i→ ¬ BB ps gs j) (fun i=>[(5, .int .i64 (i:Int))]) (fun i=>48-i) (1) (by exact⟨⟨df _,Z8⟩,fun j h1 h2=>Z8⟩) Ze (fun i ⟨⟨zx,hi⟩,hj⟩=> ?_);refine Da ?_);rcases ig i 48 with hlt|hge
 ·obtain⟨p,hp⟩: ∃ p,ps[i]? =some p:=⟨_,ak Z8⟩;obtain⟨g0,zy⟩: ∃ g0,gs[i]? =some g0:=⟨_,ak Z8⟩;by_cases hc:p.1=0∧g0<2147483647
  ·obtain⟨c1,c2⟩:=hc;have hT:VD ps gs i:= .inl ⟨zx,hlt,⟨p,g0,hp,zy,c1,c2⟩,hj⟩;have hv:(if i=0 then (10:Int) else 0)=0:=Jf Z8;refine bM ?_;exact Ea (x:=⟨i,hT,by rw[hv],rfl⟩)
  ·have hn: ¬ BB ps gs i:=by
    rintro⟨p',g',e1,e2,e3,e4⟩;rw[hp] at e1;cases e1;rw[zy] at e2;cases e2;exact hc ⟨e3,e4⟩
   have hst: ∀ j,1≤j→j<i+1→ ¬ BB ps gs j:=fun j j1 j2=>by
    rcases ig j i with h|h
    ·exact hj j j1 h
    ·rw[show j=i from by omega];exact hn
   by_cases c1:p.1=0
   ·have c2: ¬ g0<2147483647:=fun e=>hc ⟨c1,e⟩
    clear hc;refine bM ?_;refine Ee (i+1) ?_ ?_
    ·exact⟨⟨Z8,Z8⟩,hst⟩
    ·omega
   ·clear hc;refine bM ?_;refine Ee (i+1) ?_ ?_
    ·exact⟨⟨Z8,Z8⟩,hst⟩
    ·omega
 ·obtain rfl:i=48:=Z8
  refine bM ?_;exact Ea (x:=⟨0, .inr ⟨rfl,hj⟩,rfl,rfl⟩)
end cK
namespace nH
open Go.RowKit bO sl uU
def DQ:List UInt8→List UInt8→List (List UInt8)
 |cur,[]=>if cur=[] then [] else [cur]
 |cur,x::t=>if x=47 then (if cur=[] then DQ [] t else cur::DQ [] t) else DQ (cur++[x]) t
def OO (s:List UInt8):List (List UInt8):=DQ [] s
theorem aHQ (a b:List UInt8): ∀ cur,47∉a→DQ cur (a++47::b)=if cur++a=[] then OO b else (cur++a)::OO b:=by
 induction a with
 |nil=>
  intro cur _;rw[dz,ke,DQ,Jg rfl];rfl
 |cons x a ih=>
  intro cur h;rw[dw,DQ,Jf (fun e=>h ZX),ih _ fun h2=>h (a8 _ h2)];simp
theorem apD (a:List UInt8): ∀ cur,47∉a→DQ cur a=if cur++a=[] then [] else [cur++a]:=by
 induction a with
 |nil=>
  intro cur _;rw[ke,DQ]
 |cons x a ih=>
  intro cur h;rw[DQ,Jf (fun e=>h ZX),ih _ fun h2=>h (a8 _ h2)];simp
theorem aNF {a:List UInt8} (b:List UInt8) (h:47∉a):OO (a++47::b)=if a=[] then OO b else a::OO b:=aHQ a b [] h
theorem ayV {a:List UInt8} (h:47∉a):OO a=if a=[] then [] else [a]:=apD a [] h
theorem akO (r:List UInt8):(Lib.indexByte r 47= -1∧47∉r)∨ ∃ a b,r=a++47::b∧47∉a∧Lib.indexByte r 47=(a.length:Int):=by
 induction r with
 |nil=>exact .inl ⟨rfl,ck⟩
 |cons x t ih=>
  by_cases hx:x=47
  ·subst hx;exact .inr ⟨[],t,rfl,ck,by simp [Lib.indexByte]⟩
  ·have e:(x==47)=false:=by simpa using hx
   rcases ih with⟨h1,h2⟩|⟨a,b,h1,h2,h3⟩
   ·refine .inl ⟨by simp [Lib.indexByte,e,h1], ?_⟩;intro h;rcases al.1 h with h|h
    ·exact hx h.symm
    ·exact h2 h
   ·refine .inr ⟨x::a,b,by rw[h1];rfl, ?_, ?_⟩
    ·intro h;rcases al.1 h with h|h
     ·exact hx h.symm
     ·exact h2 h
    ·have: ¬ ((a.length:Int)= -1):=Z8
     simp [Lib.indexByte,e,h3,this]
instance:cG lk 208:=⟨Jd⟩
attribute [local irreducible] box own sl bL aH bJ Qt cN cM dG dL eQ
theorem ayW (s:List UInt8):Ct lk 142 [.string (str s)] [] fun v H'=> ∃ b,v= .func (.func 208) #[] #[aH b 0]∧H'=[box b [.string (str s)] 9]:=by
 (refine Ye Tryz.func142 Tryz.ntmps142 ?_;intro Fr);(refine bF ?_;intro b);exact Ea (x:=⟨_,rfl,rfl⟩)
attribute [local irreducible] oT oU nX pT NR
theorem IL (x y:Ent) (b:Ent) (A:List Ent):(b::x::y::A).Perm (x::y::(A++[b])):=by
 refine acn (kj _ _ _) (adw _ ?_);refine acn (kj _ _ _) (adw _ ?_);exact (List.perm_append_singleton b A).symm
theorem aHR {l dd b:Nat} {rec:aHN} {s:List UInt8} {A0:List Ent} (hs:s.length≤1000000) (J:List (List UInt8)→List Ent→Prop) (X:Code→List Ent→Prop)
  (hr: ∀ pre x post A,OO s=pre++x::post→J pre A→apA lk l dd rec #[.string (str x)] A (fun B=>J (pre++[x]) B) X) (h0:J [] A0):
  aHO lk 208 [.func (.yield l) #[] #[],aH b 0] (pT l (rec .ready none)::NR dd::box b [.string (str s)] 9::A0)
   fun H'=>(∃ L,J (OO s) L∧H'=pT l (rec .ready none)::NR dd::L)∨ ∃ c L,X c L∧H'=pT l (rec .done (some c))::NR dd::L:=by
 refine akN Tryz.func208 Tryz.ntmps208 rfl rfl ?_;dsimp only[dw,dz,ini,Nat.reduceAdd];refine VP ?_;refine ayT (σ:=List UInt8×List (List UInt8)×List Ent) (fun x=>OO s=x.2.1++OO x.1∧x.1.length≤s.length∧J x.2.1 x.2.2) (fun _=>[(0,Value.func (.yield l) #[] #[]),(1,aH b 0)]) (fun x=>box b [.string (str x.1)] 9::pT l (rec .ready none)::NR dd::x.2.2) (fun x=>x.1.length) (s,[],A0) ⟨rfl,df _,h0⟩ (kP.of ZQ) (cA (acn (adw _ (kj _ _ _)) (kj _ _ _))) ?_;rintro⟨r,pre,A⟩ ⟨g1,g2,g3⟩;dsimp only at g1 g2 g3 ⊢;by_cases zy:r=[]
 ·have e0:(r==[])=true:=by rw[zy];rfl
  refine jI ?_;refine aeL (rs:=[]) rfl DZ.r0 _ (Or.inl ⟨A,by rw[g1,zy];simpa [OO,DQ] using g3,rfl⟩) ?_;rw[ke];exact HSub.drop (HSub.refl _)
 ·have e0:(r==[])=false:=by simpa using zy
  have I0:=KW r 47;rw[show ((47:Int).toNat.toUInt8)=47 from rfl] at I0;have hsl:=hs;rcases akO r with⟨k1,k2⟩|⟨a,t,k1,k2,k3⟩
  ·rw[k1] at I0;have zx:0<r.length:=mf.2 zy;have hn:OO r=[r]:=by rw[ayV k2,Jf zy]
   have zv:min ((r.length:Int)+1) (r.length:Int)=(r.length:Int):=Z8
   have hd:adq r.length r=[]:=List.drop_length;refine QV ?_;rw[mz];refine VU (R:=[box b [.string (str r)] 9]) wt rfl rfl rfl (hr pre r [] A (by rw[g1,hn]) g3) (cA (IL _ _ _ _)) ?_ ?_
   ·intro L hL;refine abR (cA (IL _ _ _ _).symm) ?_;refine jI ?_;refine DN ([],pre++[r],L) ?_ (kP.of ZQ) (HSub.refl _) ?_
    ·exact⟨by rw[g1,hn];simp [OO,DQ],Ja,hL⟩
    ·exact zx
   ·intro c L hL;refine jI ?_;refine IK (rs:=[]) rfl DZ.r0 _ (Or.inr ⟨c,L,hL,rfl⟩) ?_;exact HSub.BJ Ja
  ·rw[k3] at I0;have hrl:r.length=a.length+1+t.length:=by rw[k1];simp;omega
   have zv:min ((a.length:Int)+1) (r.length:Int)=((a.length+1:Nat):Int):=Z8
   have hd:adq (a.length+1) r=t:=by rw[k1];simp
   have ht:aef a.length r=a:=by rw[k1];simp
   have zw:=aNF t k2;by_cases ha:a=[]
   ·have hl0:a.length=0:=by rw[ha];rfl
    have hn:OO r=OO t:=by rw[k1,zw,Jg ha]
    refine QV ?_;refine DN (t,pre,A) ?_ (kP.of ZQ) (HSub.refl _) ?_
    ·exact⟨by rw[g1,hn],by dsimp only;omega,g3⟩
    ·dsimp only;omega
   ·have zx:0<a.length:=mf.2 ha;have hn:OO r=a::OO t:=by rw[k1,zw,Jf ha]
    refine QV ?_;refine VU (R:=[box b [.string (str r)] 9]) wt rfl rfl rfl (hr pre a (OO t) A (by rw[g1,hn]) g3) (cA (IL _ _ _ _)) ?_ ?_
    ·intro L hL;refine abR (cA (IL _ _ _ _).symm) ?_;refine jI ?_;refine DN (t,pre++[a],L) ?_ (kP.of ZQ) (HSub.refl _) ?_
     ·exact⟨by rw[g1,hn];simp,by dsimp only;omega,hL⟩
     ·dsimp only;omega
    ·intro c L hL;refine jI ?_;refine IK (rs:=[]) rfl DZ.r0 _ (Or.inr ⟨c,L,hL,rfl⟩) ?_;exact HSub.BJ Ja
end nH
namespace nH
open Go.RowKit bO sl uU
open file (fT QR)
theorem aHS {x:List UInt8} (s:List UInt8): ∀ cur,47∉cur→x∈DQ cur s→x≠[]∧47∉x∧x.length≤cur.length+s.length:=by
 induction s with
 |nil=>
  intro cur hc h;rw[DQ] at h;split at h
  ·exact absurd h ck
  ·rename_i hn;rw[eh.1 h];exact⟨hn,hc,Z8⟩
 |cons y t ih=>
  intro cur hc h;rw[DQ] at h;have h0:=ih [] ck;split at h
  ·split at h
   ·have:=h0 h;exact⟨this.1,this.2.1,by have:=this.2.2;simp at this ⊢;omega⟩
   ·rename_i hn;rcases al.1 h with h|h
    ·rw[h];exact⟨hn,hc,Z8⟩
    ·have:=h0 h;exact⟨this.1,this.2.1,by have:=this.2.2;simp at this ⊢;omega⟩
  ·rename_i hy;have:=ih (cur++[y]) (by simp [hc];exact fun e=>hy e.symm) h;exact⟨this.1,this.2.1,by have:=this.2.2;simp at this ⊢;omega⟩
theorem aNG {x s:List UInt8} (h:x∈OO s):x≠[]∧47∉x∧x.length≤s.length:=by
 have:=aHS s [] ck h;simpa using this
def LM:List (List UInt8)→List (List UInt8)→List (List UInt8)×Int
 |out,[]=>(out,0)
 |out,n::t=>if n=[46] then LM out t else if n=[46,46] then LM out.dropLast t else if ¬ gU n then ([],11) else if out.length=8 then ([],2) else LM (out++[n]) t
def aV (s:List UInt8):List (List UInt8)×Int:=if 200<s.length then ([],2) else if s.head? =some 47 then LM [] (OO s) else ([],11)
section
variable {P:Program} {Q:fW} {n:Nat} {F:eE} {H R:List Ent} {ro:Option Nat} {D:List Deferred}
theorem apE {cd:Code} {q:Option Addr} {e sz m c:Nat} {xs:List Value} (p:bQ (own (.slice q m c) e sz m xs) H R) (k:m≤c→oT ro D P Q n cd F H):oT ro D P Q n cd F H:=fun a w hD ha hw=>by
 have zy:=hw.perm p.perm;obtain⟨raw,h1,h2,h3,h4,h5⟩:=zF (zy.head:w.ownsRow 0 e sz (.slice q m c) m xs);exact k h4 a w hD ha hw
theorem VV {q:Option Addr} {e sz m k c:Nat} {xs ys:List Value} (hk:k≤m) (hx:xs.take (k*sz)=ys):HSub (own (.slice q m c) e sz m xs::R) (own (.slice q k c) e sz k ys::R):=fun w hw=>by
 obtain ⟨raw, h1, h2, h3, h4, h5⟩ := zF (hw.head : w.ownsRow 0 e sz (.slice q m c) m xs);have h6 : aG (own (.slice q c c) e sz c raw :: R) w := aG.qO hw rfl (oB.refl _ _) h1 fun b hb => .inl (by
  have zy : (jw q c c).ownBlock = some b := hb;show (jw q m c).ownBlock = some b;cases q <;> exact zy)
 refine qV (gm hk h4) ?_ w h6;rw[←hx, ←h3,List.take_take,Nat.min_eq_left (Nat.mul_le_mul_right _ hk)]
theorem LP {q:Option Addr} {e sz m k c:Nat} {xs ys:List Value} (p:bQ (own (.slice q m c) e sz m xs) H R) (hk:k≤m) (hx:xs.take (k*sz)=ys):HSub H (own (.slice q k c) e sz k ys::R):=HSub.trans (cA p.perm) (VV hk hx)
end
theorem ayX (l:List (List UInt8)):(flat fT l).take ((l.length-1)*1)=flat fT l.dropLast:=by
 rw[Nat.mul_one];have h: ∀ l:List (List UInt8),flat fT l=l.map fun x=>Value.string (str x):=fun l=>by
  induction l with
  |nil=>rfl
  |cons a l ih=>show fT a++flat fT l=_;rw[ih];rfl
 rw[h,h, ←jj,List.dropLast_eq_take]
instance:cG lk 207:=⟨Jd⟩
attribute [local irreducible] oT oU nX pT NR
attribute [local irreducible] box own sl bL aH bJ Qt cN cM dG dL eQ
theorem ayY (s:List UInt8) (b:Bool) (hb:(s.head? =some 47)↔b=true) (hs:s.length≤1000000):Ct lk 207 [.string (str s), .string (str [47])] [] fun v H'=>v= .bool b∧H'=[]:=by
 have h1:([47]:List UInt8).length=1:=rfl;cases s with
 |nil=>
  have:b=false:=by cases b<;>simp at hb ⊢
  subst this;have h2:([]:List UInt8).length=0:=rfl;(refine Ye Tryz.func207 Tryz.ntmps207 ?_;intro Fr);refine bM ?_;exact Ea (x:=⟨rfl,rfl⟩)
 |cons x t=>
  have hl:(x::t).length=t.length+1:=rfl;have hq:(aef 1 (x::t)==[47])=b:=by
   show ([x]==[47])=b;simp at hb;cases b<;>simp at hb ⊢ <;>exact hb
  (refine Ye Tryz.func207 Tryz.ntmps207 ?_;intro Fr);refine bM ?_;exact Ea (x:=⟨rfl,rfl⟩)
theorem akP (s:List UInt8) (b:Bool) (hb:(s.head? =some 47)↔b=true) (hs:s.length≤1000000):Ct lk 141 [.string (str s), .string (str [47])] [] fun v H'=>v= .bool b∧H'=[]:=by
 have C0:=ayY s b hb hs;(refine Ye Tryz.func141 Tryz.ntmps141 ?_;intro Fr);(repeat' (first|refine Y3 ?_|refine Wc (C0 ..) ?_|fail));exact Ea (x:=⟨rfl,rfl⟩)
def akQ (s:List UInt8) (v:Value) (H':List Ent):Prop:= ∃ q c,v= .tuple #[.slice q (aV s).1.length c, .int .i64 (aV s).2]∧H'=[own (.slice q (aV s).1.length c) 9 1 (aV s).1.length (flat fT (aV s).1)]
def SJ (s:List UInt8) (b b2 b3:Nat) (Fr:List Ent) (pre:List (List UInt8)) (A:List Ent):Prop:= ∃ out q c,A=box b [.slice q out.length c] 29::own (.slice q out.length c) 9 1 out.length (flat fT out)::box b2 [.slice none 0 0] 29::box b3 [.int .i64 0] 28::Fr∧out.length≤8∧ ∀ post,OO s=pre++post→LM [] (OO s)=LM out post
def SX (s:List UInt8) (b2 b3:Nat) (Fr:List Ent) (c:Code) (A:List Ent):Prop:= ∃ e,c= .ret∧A=box b2 [.slice none 0 0] 29::box b3 [.int .i64 e] 28::Fr∧LM [] (OO s)=([],e)
theorem uG (s:List UInt8) (hs:s.length≤maxLen):Ct lk 61 [.string (str s)] [] (akQ s):=by
 unfold akQ;have hm:maxLen=9223372036854775807:=rfl;by_cases h1:200<s.length
 ·have e:aV s=([],2):=by unfold aV;rw[Jg h1]
  rw[e];refine yO Tryz.func61 Tryz.ntmps61 rfl rfl fun Fr=> ?_
  dsimp only[dw,dz,ini,Nat.reduceAdd];(repeat' (first|refine Xa ?_|(refine Xb ?_;intro b)|(refine Xq ?_;intro q)|fail));exact IK rfl (by exact JD) _ (⟨none,0,rfl,rfl⟩) (by exact MN)
 ·by_cases h2:s.head? =some 47
  ·have C0:=akP s true (by simp [h2]) Z8;have C1:=ayW s;have e:aV s=LM [] (OO s):=by unfold aV;rw[Jf h1,Jg h2]
   rw[e];refine yO Tryz.func61 Tryz.ntmps61 rfl rfl fun Fr=> ?_
   dsimp only[dw,dz,ini,Nat.reduceAdd];(repeat' (first|refine Xa ?_|(refine Xb ?_;intro b)|(refine Xq ?_;intro q)|refine Xc (C0 ..) ?_|fail));rename_i b2 b3;(refine PW wt rfl (bG rfl (C1) rfl (by exact wY)) (by intro c h;cases h) ?_;rintro _ _ ⟨_,⟨b5,rfl,rfl⟩,rfl⟩;try refine Da ?_);refine jI ?_;refine ayM (H':=box b5 [.string (str s)] 9::box b [.slice none 0 0] 29::own (.slice none 0 0) 9 1 0 []::box b2 [.slice none 0 0] 29::box b3 [.int .i64 0] 28::Fr) MN ?_;refine apC (Hd:=SJ s b b2 b3 Fr (OO s)) (Hx:=SX s b2 b3 Fr) rfl ?_ ?_ ?_
   ·intro l dd fn T hT;refine aHR Z8 (SJ s b b2 b3 Fr) (SX s b2 b3 Fr) ?_ ?_
    ·rintro pre x post A zx ⟨out,q,c,rfl,hlen,zv⟩;have hx:=(aNG (s:=s) (x:=x) (by rw[zx];simp)).2.2;have G0:=GZ x Z8;refine ayU hT rfl fun Fr2=> ?_
     dsimp only[dw];refine jI ?_;refine apB (HSub.refl _) ?_;refine apE aU fun hmc=> ?_
     have zy:=zv _ zx;rw[LM] at zy;by_cases x1:x=[46]
     ·rw[Jg x1] at zy;have e1:(x==[46])=true:=by rw[x1];rfl
      refine jI ?_;refine DP _ ⟨out,q,c,rfl,hlen,fun post2 h=> ?_⟩ MN;rw[zy];rw[zx] at h;simp at h;rw[h]
     ·rw[Jf x1] at zy;have e1:(x==[46])=false:=by simpa using x1
      by_cases x2:x=[46,46]
      ·rw[Jg x2] at zy;have e2:(x==[46,46])=true:=by rw[x2];rfl
       refine jI ?_;refine qM 11 rfl wt rfl (sN (m:=out.length-1) rfl rfl rfl Z8 Z8) ?_;refine jI ?_;refine ayN (kP.refl _) (LP (xs:=flat fT out) (m:=out.length) (k:=out.length-1) aU Z8 (ayX out)) ?_;refine DP _ ⟨out.dropLast,q,c,rfl,by rw[adx];omega,fun post2 h=> ?_⟩ ?_
       ·rw[zy];rw[zx] at h;simp at h;rw[h]
       ·rw[adx];exact MN
      ·rw[Jf x2] at zy;have e2:(x==[46,46])=false:=by simpa using x2
       by_cases x3:gU x
       ·rw[Jf (fun h=>h x3)] at zy;have g0:nT x=0:=by unfold nT;rw[Jg x3]
        rw[g0] at G0;by_cases x4:out.length=8
        ·rw[Jg x4] at zy;refine agE ?_;exact yN _ ⟨2,rfl,rfl,zy⟩ MN
        ·rw[Jf x4] at zy;(refine auF ?_;intro q);refine PW wt rfl (by first|exact Ma (fT) [x] rfl|exact Mb (fT) [x] rfl) (by intro c h;cases h) ?_;rintro _ _ ⟨q2,c2,rfl,rfl⟩;refine jI ?_;refine DP _ ⟨out++[x],q2,c2,rfl,by rw[ae,gk];omega,fun post2 h=> ?_⟩ MN;rw[zy];rw[zx] at h;simp at h;rw[h]
       ·rw[Jg x3] at zy;have g0:nT x=11:=by unfold nT;rw[Jf x3]
        rw[g0] at G0;refine agE ?_;exact yN _ ⟨11,rfl,rfl,zy⟩ MN
    ·exact⟨[],none,0,rfl,Ja,fun post h=>by rw[h];rfl⟩
   ·rintro dd L ⟨out,q,c,rfl,hlen,zv⟩;have zw:=zv [] Ja;rw[LM] at zw;rw[zw];refine jI ?_;exact BD rfl (HSub.mB (.out Zk (.nil (aeb _)))) (by exact JD) _ (⟨q,c,rfl,rfl⟩) (by exact MN)
   ·rintro c dd L ⟨e2,rfl,rfl,zw⟩;rw[zw];refine jI ?_;exact BD rfl (HSub.mB (.out Zk (.nil (aeb _)))) (by exact JD) _ (⟨none,0,rfl,rfl⟩) (by exact MN)
  ·have C0:=akP s false (by simp [h2]) Z8;have e:aV s=([],11):=by unfold aV;rw[Jf h1,Jf h2]
   rw[e];refine yO Tryz.func61 Tryz.ntmps61 rfl rfl fun Fr=> ?_
   dsimp only[dw,dz,ini,Nat.reduceAdd];(repeat' (first|refine Xa ?_|(refine Xb ?_;intro b)|(refine Xq ?_;intro q)|refine Xc (C0 ..) ?_|fail));exact IK rfl (by exact JD) _ (⟨none,0,rfl,rfl⟩) (by exact MN)
end nH
