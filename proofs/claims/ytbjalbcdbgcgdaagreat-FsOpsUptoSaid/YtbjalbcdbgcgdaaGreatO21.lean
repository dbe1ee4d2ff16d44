/- FsOps, packed. -/
import Derived.Test.YtbjalbcdbgcgdaaGreatOQ
import Derived.Test.YtbjalbcdbgcgdaaGreatO17
import Derived.Test.YtbjalbcdbgcgdaaGreatO00
import Derived.Test.YtbjalbcdbgcgdaaGreatO15
open List renaming cons_append->dw,nil_append->dz,perm_append_comm->afs
open Nat renaming zero_le->fe
open ByteArray renaming empty->aew
set_option linter.unusedVariables false
set_option maxRecDepth 100000
set_option maxHeartbeats 8000000
namespace Go.Proofs.YtbjalbcdbgcgdaaGreat
open Go.RowKit bA bO cK cO dZ file sl use
namespace fs
open dir uU
attribute [local irreducible] box own sl bL aH bJ Qt cN cM dG dL eQ
theorem aNK (b:Nat) (x:iV) {tab:cT} (hI:Inv x tab) (hO:VH tab) (s:List UInt8) (hs:s.length≤1000000000000000) {L:List (List UInt8)} (h:nH.aV s=(L,0)) {nm:List UInt8} {k:Nat} (hk:L.length=k+1) (zt:L[k]? =some nm) {rn:Nat} {y:Nd} (hw:aJ tab 0 (L.take k)=(0,rn)) (hy:tab rn=some y) (zv:y.kind=2) (hf:cS y.aP nm=0) {ino:Nat} (zx:ino=(jN y.aP nm).toNat) (zr:aJ tab 0 L=(0,ino)) {z:Nd} (hz:tab ino=some z) (zq:z.kind=1) (zw:z.gen<2147483647) (s2:ByteArray) (at' N:Int) (text:List UInt8):
  Ct Tryz.prog 15 [aH b 0,jG 6 s s2 at' N text] (bI b x) (VL b (aE x) (dU tab rn y nm ino) ((aE x).d.aA.set ino ((aE x).d.aA[ino]?.getD 0+1)) 3 4):=by
 have S0:=fF hs h;obtain⟨zy,hl8⟩:=cW h;have FA:=gX;have W0:=fun qL cL=>iK b (aE x).d (.int .i64 (aE x).gJ) (.int .i64 (aE x).turn) (.slice (aE x).qf (aE x).fr.length (aE x).cf) (.slice (aE x).qo (aE x).ops.length (aE x).co) tab hI.pM hI.shut qL cL L Z8 (fun s hs=>by have:=(zy s hs).2.2.2.1;omega)
 rw[zr] at W0;have GA:=fun qL cL=>akS b (aE x) (qN hI) hO (fe _) qL cL L Z8 zy hk zt hw hy zv hf zx hz zw (fun e=>Z8)
 have YES: ∀ (e:Int) H',hU b (aE x) (dU tab rn y nm ino) ((aE x).d.aA.set ino ((aE x).d.aA[ino]?.getD 0+1)) 3 4 (.int .i64 e) H'→VL b (aE x) (dU tab rn y nm ino) ((aE x).d.aA.set ino ((aE x).d.aA[ino]?.getD 0+1)) 3 4 (eS e) H':=fun e H' h=>⟨e,rfl,h⟩
 have hint:=fun v H'=>gK (b:=b) (x:=aE x) (tab':=dU tab rn y nm ino) (G:=((aE x).d.aA.set ino ((aE x).d.aA[ino]?.getD 0+1))) (N:=3) (keep:=4) (v:=v) (H':=H')
 refine gH (R:=VL b (aE x) (dU tab rn y nm ino) ((aE x).d.aA.set ino ((aE x).d.aA[ino]?.getD 0+1)) 3 4) ?_ fun _ _ h=>h
 generalize VL b (aE x) (dU tab rn y nm ino) ((aE x).d.aA.set ino ((aE x).d.aA[ino]?.getD 0+1)) 3 4=RR at*;generalize hU b (aE x) (dU tab rn y nm ino) ((aE x).d.aA.set ino ((aE x).d.aA[ino]?.getD 0+1)) 3 4=CR at*;unfold eS at FA YES;unfold nV at W0;unfold aE at GA W0;unfold jG;clear hw hy zv hf zx zw;obtain⟨d,s0,tn,qf,cf,F,qo,co,Lo⟩:=x;obtain⟨a,ca,cs,w,cw,wl,m,cm,at1,qg,cg,aA⟩:=d;unfold bI bC aX at*;dsimp only[dw,dz] at*;(refine Ye Tryz.func15 Tryz.ntmps15 ?_;intro Fr);(repeat' (first|refine Y4 ?_|(refine Wb ?_;intro b)|fail));refine aN (aS _ 87 3) ?_;(refine Ca (S0) ?_;rintro _ _ ⟨_,⟨q1,c1,rfl,rfl⟩,rfl⟩;refine Da ?_);refine kB ?_;(refine Ca (W0 _ _) ?_;rintro _ _ ⟨_,hr,rfl⟩;(try refine Da ?_));rcases hr with⟨h0,rfl,rfl⟩|⟨y',l,q,c,⟨_,zu,zn⟩,rfl,rfl⟩
 ·exact absurd rfl h0
 ·rw[hz] at zu;cases zu;have zm:kI l=1:=by rw[zn.kind];exact zq
  rw[zm];refine Da ?_;(refine iB ?_;intro b);refine aN (bB (v:= .slice q1 L.length c1) (e:=9) (m:=L.length) (f:=fT) (ys:=L) aU (fun _=>rfl) rfl) ?_;refine Cb (GA _ _) ?_;rintro _ _ ⟨_,hm,rfl⟩;obtain⟨e2,rfl⟩:=hint _ _ hm;refine aN (cA afs) ?_;refine Da ?_;(repeat' (first|refine Wa ?_|refine Wc (FA ..) ?_|fail));exact Ec (x:=YES e2 _ hm)
end fs
namespace fs
open dir uU
attribute [local irreducible] box own sl bL aH bJ Qt cN cM dG dL eQ
theorem aIE {b:Nat} {x:iV} {tab:cT} {n:Nat} {y:Nd} {at':Int} {text:List UInt8} {v:Value} {H':List Ent} (h:WrR b x tab n y at' text v H'): ∃ e:Int,v=eS e:=by
 rcases h with⟨_,h,_⟩|⟨_,e,h,_⟩
 ·exact⟨_,h⟩
 ·exact⟨e,h⟩
theorem aNL (b:Nat) (x:iV) {tab:cT} (hI:Inv x tab) (s:List UInt8) (hs:s.length≤1000000000000000) {L:List (List UInt8)} (h:nH.aV s=(L,0)) {ino:Nat} (zu:aJ tab 0 L=(0,ino)) {z:Nd} (hz:tab ino=some z) (zx:z.kind=1) (s2:ByteArray) (at' N:Int) (text:List UInt8) (ht:text.length≤1000000000000000):
  Ct Tryz.prog 15 [aH b 0,jG 3 s s2 at' N text] (bI b x) (WrR b (aE x) tab ino z at' text):=by
 have S0:=fF hs h;obtain⟨zy,hl8⟩:=cW h;have FA:=gX;have W0:=fun qL cL=>iK b (aE x).d (.int .i64 (aE x).gJ) (.int .i64 (aE x).turn) (.slice (aE x).qf (aE x).fr.length (aE x).cf) (.slice (aE x).qo (aE x).ops.length (aE x).co) tab hI.pM hI.shut qL cL L Z8 (fun s hs=>by have:=(zy s hs).2.2.2.1;omega)
 rw[zu] at W0;have BA:=fun l hl q c=>akU b (aE x) (qN hI) (fe _) hz zx (l:=l) hl ⟨s.toArray⟩ s2 at' N text ht q c
 have YES: ∀ v H',WrR b (aE x) tab ino z at' text v H'→WrR b (aE x) tab ino z at' text v H':=fun v H' h=>h
 have hint:=fun v H'=>aIE (b:=b) (x:=aE x) (tab:=tab) (n:=ino) (y:=z) (at':=at') (text:=text) (v:=v) (H':=H')
 refine gH (R:=WrR b (aE x) tab ino z at' text) ?_ fun _ _ h=>h
 generalize WrR b (aE x) tab ino z at' text=RR at*;unfold eS at FA hint;unfold nV at W0;unfold aE at BA W0;unfold jG;obtain⟨d,s0,tn,qf,cf,F,qo,co,Lo⟩:=x;obtain⟨a,ca,cs,w,cw,wl,m,cm,at1,qg,cg,aA⟩:=d;unfold bI bC aX at*;dsimp only[dw,dz] at*;(refine Ye Tryz.func15 Tryz.ntmps15 ?_;intro Fr);(repeat' (first|refine Y4 ?_|(refine Wb ?_;intro b)|fail));refine aN (aS _ 87 3) ?_;(refine Ca (S0) ?_;rintro _ _ ⟨_,⟨q1,c1,rfl,rfl⟩,rfl⟩;refine Da ?_);refine kB ?_;(refine Ca (W0 _ _) ?_;rintro _ _ ⟨_,hr,rfl⟩;(try refine Da ?_));rcases hr with⟨h0,rfl,rfl⟩|⟨y',l,q,c,⟨_,zw,zv⟩,rfl,rfl⟩
 ·exact absurd rfl h0
 ·rw[hz] at zw;cases zw;have zt:kI l=1:=by rw[zv.kind];exact zx
  have BA1:=BA l zv;rw[zt] at BA1 ⊢;clear BA W0;refine Da ?_;(refine iB ?_;intro b);refine aN (bB (v:= .slice q (pI l).length c) (e:=77) (m:=(pI l).length) (f:=jP) (ys:=pI l) aU (fun _=>rfl) rfl) ?_;refine Cb (BA1 _ _) ?_;rintro _ _ ⟨_,hm,rfl⟩;obtain⟨e2,rfl⟩:=hint _ _ hm;refine aN (cA afs) ?_;refine Da ?_;refine iC ?_;exact Ec (x:=YES _ _ hm)
end fs
namespace fs
structure NZ (x:iV) (tab:cT) (x':iV):Prop where
 inv:Inv x' tab
 cs:x'.d.cs=syF x.d x.gJ x.turn
 ps:x'.d.ps=[]
 at':x'.d.at'=x.d.at'
 aA:x'.d.aA=x.d.aA
 gJ:x'.gJ=x.gJ
 turn:x'.turn=x.turn+1
 ops:x'.ops=x.ops++[(2,0,aew)]++[(1,(x.turn+1)%2,ptF x.d x.gJ x.turn)]++[(2,0,aew)]
 free: ∃ L,AS x'.d.cs [] x'.d.at' x'.d.aA L∧x'.fr=jJ (cC (fun _=>0) L) x'.d.cs.length
def SyR (b:Nat) (x:iV) (tab:cT) (v:Value) (H':List Ent):Prop:= ∃ x',NZ x tab x'∧v= .int .i64 0∧H'=bI b x'
attribute [local irreducible] box own sl bL aH bJ Qt cN cM dG dL eQ
theorem aIL (b:Nat) (x:iV) {tab:cT} (hI:Inv x tab) (zw:x.ops.length≤100000) (ht:x.turn<2147483647):Ct Tryz.prog 58 [aH b 0] (bI b x) (SyR b x tab):=by
 have h1:=hI.gJ;have h2:=hI.ayF;have h3:=hI.turn;obtain⟨F,zv,hmany,zy⟩:=WH (serial:=x.gJ) (turn:=x.turn) hI.pM hI.two ⟨h1,h2⟩ ⟨Z8,ht⟩;have C:=alB b x.d x.gJ x.turn (.slice x.qf x.fr.length x.cf) x.ops x.qo x.co zw zv;refine⟨fun Fr w hw=> ?_⟩;have zu:aG ((bC b x.d (.int .i64 x.gJ) (.int .i64 x.turn) (.slice x.qf x.fr.length x.cf) (.slice x.qo x.ops.length x.co)::(aX x.d++[own (.slice x.qo x.ops.length x.co) 87 3 x.ops.length (flat FM x.ops)]))++Fr) w:=by
  refine hw.sub ?_;unfold bI aX;dsimp only[dw,dz];repeat (first|exact List.Sublist.refl _|apply List.Sublist.cons_cons|apply List.Sublist.cons)
 refine (C.go Fr w zu).mono fun e w' ⟨v,H',q1,⟨a,ca,w3,cw,q,c,qf,cf,hv,hH⟩,q4⟩=> ?_
 obtain⟨n1,n2,n3⟩:=zy ⟨a,ca,syF x.d x.gJ x.turn,w3,cw,[],x.d.m,x.d.cm,x.d.at',x.d.g,x.d.cg,x.d.aA⟩ rfl rfl rfl rfl;have zx: ∃ ops,ops=x.ops++[(2,0,aew)]++[(1,(x.turn+1)%2,ptF x.d x.gJ x.turn)]++[(2,0,aew)]:=⟨_,rfl⟩;obtain⟨ops,zx⟩:=zx;obtain⟨_,_,_,_,_,_,_,_,hcs,_,L,hL,hF⟩:=zv;have hX:NZ x tab ⟨⟨a,ca,syF x.d x.gJ x.turn,w3,cw,[],x.d.m,x.d.cm,x.d.at',x.d.g,x.d.cg,x.d.aA⟩,x.gJ,x.turn+1,qf,cf,F,q,c,ops⟩:=⟨⟨n1,hI.shut,n2,h1,h2,by show 0≤x.turn+1;omega,n3⟩,rfl,rfl,rfl,rfl,rfl,rfl,zx,L,hL,hF⟩;refine⟨v,bI b ⟨⟨a,ca,syF x.d x.gJ x.turn,w3,cw,[],x.d.m,x.d.cm,x.d.at',x.d.g,x.d.cg,x.d.aA⟩,x.gJ,x.turn+1,qf,cf,F,q,c,ops⟩,q1,⟨_,hX,hv,rfl⟩, ?_⟩;rw[hH, ←zx] at q4;unfold bI;unfold aX at q4 ⊢;dsimp only[dw,dz] at q4 ⊢;have q5:=bB (v:= .slice qf F.length cf) (e:=3) (m:=F.length) (f:=fI) (ys:=F) aU (fun _=>rfl) rfl w' q4;refine q5.perm ?_;refine List.Perm.trans (List.perm_middle (l₁:=[_,_,_,_,_]) (l₂:=_)).symm ?_;exact List.Perm.refl _
theorem aSD (b:Nat) (x:iV) {tab:cT} (hI:Inv x tab) (ht:x.turn<2147483647) (s:List UInt8) (s2:ByteArray) (at' N:Int) (text:List UInt8):
  Ct Tryz.prog 15 [aH b 0,jG 11 s s2 at' N text] (bI b x) fun v H'=> ∃ x',NZ (aE x) tab x'∧v=eS 0∧H'=bI b x':=by
 have FA:=gX;have SY:=aIL b (aE x) (qN hI) (fe _) ht;have YES: ∀ H',SyR b (aE x) tab (.int .i64 0) H'→ ∃ x',NZ (aE x) tab x'∧eS 0=eS 0∧H'=bI b x':=fun H' ⟨x',h1,_,h2⟩=>⟨x',h1,rfl,h2⟩
 have hint: ∀ v H',SyR b (aE x) tab v H'→v= .int .i64 0:=fun v H' ⟨_,_,h,_⟩=>h
 unfold eS at FA YES ⊢;generalize hQ:SyR b (aE x) tab=Q at*;have YES2: ∀ H',Q (.int .i64 0) H'→ ∃ x',NZ (aE x) tab x'∧(.agg #[.int .i64 0, .string (str []), .int .i64 0, .int .i64 0, .slice none 0 0]:Value)= .agg #[.int .i64 0, .string (str []), .int .i64 0, .int .i64 0, .slice none 0 0]∧H'=bI b x':=YES;clear YES hQ;unfold jG;generalize hX:(fun (v:Value) (H':List Ent)=> ∃ x',NZ (aE x) tab x'∧v=(.agg #[.int .i64 0, .string (str []), .int .i64 0, .int .i64 0, .slice none 0 0]:Value)∧H'=bI b x')=RR;have YES3: ∀ H',Q (.int .i64 0) H'→RR (.agg #[.int .i64 0, .string (str []), .int .i64 0, .int .i64 0, .slice none 0 0]) H':=fun H' h=>by rw[←hX];exact YES2 H' h
 clear YES2 hX;unfold aE at SY;clear hI ht;obtain⟨d,s0,tn,qf,cf,F,qo,co,Lo⟩:=x;obtain⟨a,ca,cs,w,cw,wl,m,cm,at1,qg,cg,aA⟩:=d;unfold bI bC aX at*;dsimp only[dw,dz] at*;(refine Ye Tryz.func15 Tryz.ntmps15 ?_;intro Fr);refine aO (aS _ 87 3) ?_;(repeat' (first|refine Y2 ?_|(refine Wb ?_;intro b)|(refine Wq ?_;intro q)|(refine Ws ?_ ?_<;>intro h)|refine Wz ?_|fail));refine Cb (SY) ?_;rintro _ _ ⟨_,hm,rfl⟩;obtain rfl:=hint _ _ hm;refine aN (cA afs) ?_;refine Da ?_;refine lG ?_;exact Ec (x:=YES3 _ hm)
end fs
