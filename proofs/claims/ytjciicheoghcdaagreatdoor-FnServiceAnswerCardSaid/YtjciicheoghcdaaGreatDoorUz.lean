/- Part of the proof of FnServiceAnswer. -/
import Derived.Test.YtjciicheoghcdaaGreatDoorUp
import Derived.Test.YtjciicheoghcdaaGreatDoorUy
namespace Go.Proofs.YtjciicheoghcdaaGreatDoor
open Go.RowKit Go.Proofs.Tryz
set_option linter.all false
set_option maxRecDepth 20000
set_option maxHeartbeats 16000000
section
attribute [local go_sem] af ah ae
def RdA (ps:List (List UInt8)) (ms:List Mx):Prop:=ps.length=ms.length/\∀ (i:Nat) p m,ps[i]?=some p->ms[i]?=some m->mvB m=true/\mt m=p
theorem RdA.one {ps:List (List UInt8)} {a b:List Mx} (h:RdA ps a) (k:RdA ps b):a=b:=by
 apply List.ext_getElem?
 intro i
 by_cases hi:i<ps.length
 ·obtain⟨p,hp,_⟩:=aH hi;obtain⟨x,hx,_⟩:=aH (xs:=a) (j:=i) (by rw[<-h.1];exact hi)
  obtain⟨y,hy,_⟩:=aH (xs:=b) (j:=i) (by rw[<-k.1];exact hi)
  obtain⟨v1,e1⟩:=h.2 i p x hp hx;obtain⟨v2,e2⟩:=k.2 i p y hp hy;rw[hx,hy,(RMp.one (l:=p) (.inl ⟨rfl,v1,e1⟩) (.inl ⟨rfl,v2,e2⟩)).1]
 ·rw[List.getElem?_eq_none (by rw[<-h.1];omega),List.getElem?_eq_none (by rw[<-k.1];omega)]
theorem RdA.nil:RdA [] []:=⟨rfl,fun i p m h=>by simp at h⟩
theorem RdA.snoc {ps:List (List UInt8)} {ms:List Mx} {j:Nat} {p:List UInt8} {m:Mx} (h:RdA (ps.take j) ms) (hp:ps[j]?=some p) (hm:mvB m=true) (ht:mt m=p):RdA (ps.take (j+1)) (ms++[m]):=by
 have hj:=(List.getElem?_eq_some_iff.1 hp).1;have hl:ms.length=j:=by rw[<-h.1,List.length_take,Nat.min_eq_left (Nat.le_of_lt hj)]
 rw[aW hp];refine⟨by simp[h.1],fun i q x hq hx=>?_⟩
 by_cases e:i<j
 ·rw[List.getElem?_append_left (by rw[List.length_take,Nat.min_eq_left (Nat.le_of_lt hj)];exact e)] at hq
  rw[List.getElem?_append_left (by rw[hl];exact e)] at hx
  exact h.2 i q x hq hx
 ·rw[List.getElem?_append_right (by rw[hl];omega),hl] at hx
  rw[List.getElem?_append_right (by rw[List.length_take,Nat.min_eq_left (Nat.le_of_lt hj)];omega),List.length_take,Nat.min_eq_left (Nat.le_of_lt hj)] at hq
  have hi:i-j=0:=by
   rcases Nat.eq_zero_or_pos (i-j) with h0|h0
   ·exact h0
   ·rw[List.getElem?_eq_none (by simp;omega)] at hx;cases hx
  rw[hi] at hx hq;injection hx with hx;injection hq with hq;subst hx;subst hq
  exact⟨hm,ht⟩
theorem RdA.no {ps:List (List UInt8)} {j:Nat} {p:List UInt8} (hp:ps[j]?=some p) (h:∀ m,mvB m=true->mt m≠p):∀ ms,¬RdA ps ms:=fun ms hr=>by
 obtain⟨m,hm,_⟩:=aH (xs:=ms) (j:=j) (by rw[<-hr.1];exact(List.getElem?_eq_some_iff.1 hp).1)
 obtain⟨v,e⟩:=hr.2 j p m hp hm
 exact h m v e
theorem RdA.mv {ps:List (List UInt8)} {ms:List Mx} (h:RdA ps ms):∀ m,m∈ms->mvB m=true:=fun m hm=>by
 obtain⟨i,hi,rfl⟩:=List.mem_iff_getElem.1 hm;obtain⟨p,hp,_⟩:=aH (xs:=ps) (j:=i) (by rw[h.1];exact hi)
 exact(h.2 i p _ hp (List.getElem?_eq_getElem hi)).1
def ZMa:Array Value:=#[.int .i64 0,.int .i64 0,.slice none 0 0]
theorem CH (n:Nat) (hn:n<=1048576) (w:World):(Instr.makeSlice 69 (.int .i64 (n:Int)) (.int .i64 (n:Int))).run prog w= .ok (.slice (some ⟨w.heap.size,0,none⟩) n n) (w.alloc (.cells (madeCells ZMa (n*ZMa.size)) 37)):=by
 obtain⟨i,hi,hz,h1,h8⟩:=info_parts rI;have h:=run_make (P:=prog) w 69 37 i _ underlying69 hi hz .i64 .i64 (n:Int) (n:Int) (by omega) (Int.le_refl _) (by rw[h8];omega) (by omega)
 rw[h,h1];simp only[Int.toNat_natCast]
 rfl
abbrev eP:List UInt8:=[32,124,32]
def dm (l:List UInt8):List (List UInt8):=Lib.split l eP
def RdR (l:List UInt8) (many:Nat) (w:World) (e:Ending) (w':World):Prop :=
 (∃ ms A c F,RdA (dm l) ms/\ms.length=many/\e= .returned (.tuple #[.slice A many c,.bool true])/\RI mxE w' A many c ms F/\Fr w' w.heap.size F/\Below w.heap.size w w') \/
 ((∀ ms,RdA (dm l) ms->ms.length≠many)/\e= .returned (.tuple #[.slice none 0 0,.bool false])/\Below w.heap.size w w')
theorem yz {w:World} {T:TypeId} {s base n c gj i:Nat} {pre b:List Value} {u0 u1 u2:Value} (h:VO w base T s (some ⟨gj,0,none⟩) n c (pre++(u0::u1::u2::b))) (hj:i=pre.length) (v0 v1 v2:Value) :
  VO (((w.setCell ⟨gj,i,none⟩ v0).setCell ⟨gj,i+1,none⟩ v1).setCell ⟨gj,i+2,none⟩ v2) base T s (some ⟨gj,0,none⟩) n c (pre++(v0::v1::v2::b)):=by
 have h0:=gp (a:=[]) (u:=u0) h (j:=i) (by simp[hj]) v0
 have h1:=gp (a:=[v0]) (u:=u1) (b:=u2::b) (by simpa using h0) (j:=i+1) (by simp[hj]) v1
 have h2:=gp (a:=[v0,v1]) (u:=u2) (b:=b) (by simpa using h1) (j:=i+2) (by simp[hj]) v2
 simpa using h2
theorem FC.alloc {α:Type} {E:Elt α} {w:World} {base n c:Nat} {T:TypeId} {A:Option Addr} {css:List (List Value)} {rest:List Value} {xs:List α} {F:List Nat} (h:FC E w base T A n c css rest xs F) (o:Obj):FC E (w.alloc o) base T A n c css rest xs F :=
 ⟨h.1.alloc o,h.2.1.au fun g hg=>Below.heap_alloc w o g (h.2.1.lt g hg),h.2.2.1.au fun g hg=>Below.heap_alloc w o g (h.2.1.lt g hg),h.2.2.2⟩
theorem mE (w:World):Calls prog 37 #[.string (bs []),.int .i64 0] w fun e w'=>e= .returned (.tuple #[.slice none 0 0,.bool true])/\Below w.heap.size w w':=by
 unfold bs
 go_enter func37,ntmps37
 go_wp2
 go_ret2
 exact⟨rfl,Below.refl _ _⟩
theorem nF (l:List UInt8) (hl:l.length<=1048576) (many:Nat) (h1:1<=many) (h3:many<=3) (w:World) (ht:Tab w) (hm:iD w):Calls prog 37 #[.string (bs l),.int .i64 (many:Int)] w (RdR l many w):=by
 have HT:=Qh ht;have HM:=Qh hm;have HL:=Qh hl;have n0:((many:Int) == 0)=false:=by simp;omega
 have n0':¬(many:Int)=0:=by omega
 clear ht hm hl
 go_enter func37,ntmps37
 go_wp2_with fail
 refine(pU l [32,124,32] (by simp) (Nat.le_trans HL.out (by omega)) w HM.out).mono ?_
 rintro e w1 ⟨rfl,hv,hb⟩;obtain⟨p,hp⟩:∃ p,p=(dm l).length:=⟨_,rfl⟩;have hp2:p=(Lib.split l [32,124,32]).length:=hp;rw[<-hp2] at hv ⊢;clear hp2;obtain⟨gR,hgR⟩:∃ g,g=w.heap.size:=⟨_,rfl⟩;rw[<-hgR] at hv ⊢;have HV:Hid (VO w1 gR 9 1 (some ⟨gR,0,none⟩) p p (strs (dm l))):=hv;have HP:=Qh hp;have HB:=Qh hb;have HGR:=Qh hgR;clear hv hp hb hgR
 by_cases hpm:p=many
 ·subst hpm;have b0:((p:Int) != (p:Int))=false:=by simp
  have hmk:=fun W:World=>CH p (by omega) W
  obtain⟨OB,hO⟩:∃ OB,OB=(Obj.cells (madeCells ZMa (p*ZMa.size)) 37):=⟨_,rfl⟩;rw[<-hO] at hmk;have H0:Hid (FC mxE (w1.alloc OB) w1.heap.size 37 (some ⟨w1.heap.size,0,none⟩) p p [] (List.replicate (p-0) ZMa.toList).flatten [] []):=by
   rw[hO]
   exact⟨VO.made w1 _ ZMa (by decide) p (by unfold maxLen;omega),rfl,Fr.nil _ _,fun _ _ h=>by cases h⟩
  have B0:Hid (Below w1.heap.size w1 (w1.alloc OB)):=Qb.alloc Ql _;clear hO;go_wp2
  go_loopw [26] (fun i wr=>∃ (j:Nat) (ms:List Mx) (css:List (List Value)) (F:List Nat),j<=p/\i= .int .i64 j/\Hid (RdA ((dm l).take j) ms)/\Hid (FC mxE wr w1.heap.size 37 (some ⟨w1.heap.size,0,none⟩) p p css (List.replicate (p-j) ZMa.toList).flatten ms F)/\Hid (Below w1.heap.size w1 wr)) (fun i _=>p-(intOf i).toNat)
  case atStart=>exact⟨0,[],[],[],Nat.zero_le _,rfl,RdA.nil,H0,B0⟩
  case round =>
  clear H0 B0 hmk;obtain⟨j,ms,css,F,hj,rfl,hra,hfc,hob⟩:=hrel
  by_cases hlt:j<p
  ·have k0:(0:Int)<=(j:Int):=by omega
   have k1:(j:Int)<(p:Int):=by omega
   have HK:Hid (j<(dm l).length):=by rw[<-HP.out];exact hlt
   obtain⟨pk,hpk⟩:∃ x,x=(dm l).getD j []:=⟨_,rfl⟩;have zR:gR<w1.heap.size:=(HV.out.aj _ rfl).2;have cx:wr.cell? ⟨gR,j,none⟩=some (.string (bs pk)):=(hob.out.cell (p:=⟨gR,j,none⟩) zR).trans (by rw[HV.out.cell j (by omega),hpk];exact jh HK.out)
   have hpj:(dm l)[j]?=some pk:=by rw[hpk,List.getD_eq_getElem?_getD,List.getElem?_eq_getElem HK.out];rfl
   have HPJ:=Qh hpj;have HPL:Hid (pk.length<=1048576):=by
    show _<=_
    rw[hpk]
    exact Nat.le_trans (bX (by simp) (eS HK.out)) HL.out
   have HWR:Hid (Below w.heap.size w wr):=HB.out.trans (hob.out.mono HB.out.size);have zr:=Nat.lt_of_lt_of_le zR hob.out.size;clear hpk hpj
   go_wp2_with fail
   refine(qg pk HPL.out wr (HT.out.below HWR.out Ql) (HM.out.below HWR.out Ql)).mono ?_;rintro e w5 ⟨m,ok,A,c,rfl,hos,hrm,hb5⟩;rcases hrm with⟨rfl,hmv,hmt⟩|⟨rfl,-,hno⟩
   ·have hF:=hfc.out;have hrep:(List.replicate (p-j) ZMa.toList).flatten=[.int .i64 0,.int .i64 0,.slice none 0 0]++(List.replicate (p-(j+1)) ZMa.toList).flatten:=by
     rw[show p-j=(p-(j+1))+1 by omega,List.replicate_succ,List.flatten_cons];rfl
    rw[hrep] at hF;have hbu:=hb5;have hos5:=hos;have hpl:css.flatten.length=j*3:=by
     rw[dS hF.2.1,<-hra.out.1,List.length_take,Nat.min_eq_left (Nat.le_of_lt HK.out)]
     rfl
    have hv5:VO w5 w1.heap.size 37 3 (some ⟨w1.heap.size,0,none⟩) p p (css.flatten++([] ++ .int .i64 0 :: .int .i64 0 :: .slice none 0 0::(List.replicate (p-(j+1)) ZMa.toList).flatten)):=hF.1.below hb5;have e0:w5.cell? ⟨w1.heap.size,j*3,none⟩=some (.int .i64 0):=eF (a:=[]) hv5 (by rw[hpl];rfl)
    have e1:w5.cell? ⟨w1.heap.size,j*3+1,none⟩=some (.int .i64 0):=eF (a:=[.int .i64 0]) (by simpa using hv5) (by rw[hpl];rfl)
    have e2:w5.cell? ⟨w1.heap.size,j*3+2,none⟩=some (.slice none 0 0):=eF (a:=[.int .i64 0,.int .i64 0]) (by simpa using hv5) (by rw[hpl];rfl)
    have f0:=hv5.frozen (j*3);have f1:=hv5.frozen (j*3+1);have f2:=hv5.frozen (j*3+2);have zg:w1.heap.size<w5.heap.size:=(hv5.aj _ rfl).2;have z5:w1.heap.size<wr.heap.size:=(hF.1.aj _ rfl).2;have zw:wr.heap.size<=w5.heap.size:=hb5.size;obtain⟨uZ,hZ⟩:∃ u,u=((w5.setCell ⟨w1.heap.size,j*3,none⟩ (.int .i64 m.r)).setCell ⟨w1.heap.size,j*3+1,none⟩ (.int .i64 m.c)).setCell ⟨w1.heap.size,j*3+2,none⟩ (.slice A m.v.length c):=⟨_,rfl⟩;have V6:VO uZ w1.heap.size 37 3 (some ⟨w1.heap.size,0,none⟩) p p (css.flatten++([.int .i64 m.r,.int .i64 m.c,.slice A m.v.length c]++(List.replicate (p-(j+1)) ZMa.toList).flatten)):=by rw[hZ];exact yz (by simpa using hv5) hpl.symm _ _ _
    have On6:aZ w1.heap.size w5 uZ:=by rw[hZ];exact(aZ.refl _ _).s1.s1.s1
    have kg1:∀ g',g'∈fpI A m.v.length->uZ.heap[g']?=w5.heap[g']?:=fun g' hg'=>On6.block g' (hos5.aj _ (bz hg').2).2 (fun e=>by
     have e':w1.heap.size=g':=by first|(injection e with e1;exact e1)|(injection e with e1;exact e1.symm)
     have:=(hos5.aj _ (bz hg').2).1;omega)
    have hQ:mxE.P uZ [.int .i64 m.r,.int .i64 m.c,.slice A m.v.length c] m (fpI A m.v.length):=mxE.au _ _ _ _ _ ⟨A,c,rfl,MF.aB hos5⟩ kg1;have hFR:Fr uZ wr.heap.size (fpI A m.v.length):=Fr.au (ek hos5) kg1;have hst:=FC.step (E:=mxE) (css:=css) (A:=some ⟨w1.heap.size,0,none⟩) V6 hF.2.1 hF.2.2.1 hF.2.2.2 (fun g' hg'=>(On6.block g' (Nat.lt_of_lt_of_le (hF.2.1.lt g' hg') hbu.size) (fun e=>hF.2.2.2 g' (by first|exact e|exact e.symm) hg')).trans (hbu.block g' (hF.2.1.lt g' hg'))) hQ (hFR.mono (Nat.le_of_lt z5))
     (fun g' hg'=>⟨fun h=>by have:=hF.2.1.lt g' h;have:=(hFR.2 g' hg').1;omega,fun h=>by have:=(hFR.2 g' hg').1;have e:w1.heap.size=g':=(by simpa [blk] using h);omega⟩)
    have HST:=Qh hst;have HRA:=Qh (hra.out.snoc HPJ.out hmv hmt);have HOB:Hid (Below w1.heap.size w1 uZ):=by
     rw[hZ]
     exact(((hob.out.trans (hbu.mono hob.out.size)).setCell Ql _).setCell Ql _).setCell Ql _
    have HZ:=Qh hZ;clear hra hfc hos hmv hmt hb5 hF hrep hbu hos5 hpl hv5 V6 On6 kg1 hQ hFR hst hZ hob cx;go_wp2;rw[<-HZ.out]
    go_roundw
    case rel=>exact⟨j+1,ms++[m],_,_,by omega,by go_num,HRA,HST.out.alloc _,HOB.out.alloc (by have:=HOB.out.size;omega) _⟩
    case measure=>simp[intOf];omega
   ·have hN:∀ ms,RdA (dm l) ms->ms.length≠p:=fun ms h=>absurd h (RdA.no HPJ.out hno ms)
    have HO5:Below w.heap.size w w5:=HWR.out.trans (hb5.mono HWR.out.size);have HN:=Qh hN;clear hra hfc hos hno hb5 hob hN;go_wp2
    go_ret2
    exact .inr ⟨HN.out,rfl,HO5.alloc HO5.size _⟩
  ·obtain rfl:j=p:=by omega
   have hF:=hfc.out;rw[Nat.sub_self,List.replicate_zero,List.flatten_nil] at hF;have hr:=hra.out;rw[List.take_of_length_le (by rw[HP.out];exact Nat.le_refl _)] at hr
   have hml:ms.length=j:=by rw[<-hr.1,HP.out]
   obtain⟨F2,hr2,hf2⟩:=(FC.ox hF hml).ri;have HR2:=Qh hr2;have HF2:=Qh (hf2.mono HB.out.size);have HRA:=Qh hr;have HML:=Qh hml;have HO5:Below w.heap.size w wr:=HB.out.trans (hob.out.mono HB.out.size);clear hF hr hml hr2 hf2 hfc hra hob;go_wp2
   go_ret2
   exact .inl ⟨ms,some ⟨w1.heap.size,0,none⟩,j,F2,HRA.out,HML.out,rfl,HR2.out,HF2.out,HO5⟩
 ·have b0:((p:Int) != (many:Int))=true:=by simp;omega
  have b1:¬(p:Int)=(many:Int):=by omega
  have hN:∀ ms,RdA (dm l) ms->ms.length≠many:=fun ms h e=>hpm (by rw[HP.out,h.1,e])
  have HN:=Qh hN;clear hN;go_wp2
  go_ret2
  exact .inr ⟨HN.out,rfl,HB.out⟩
end
section
attribute [local go_sem] af ah ae
def qY (base:Nat) (A0:Option Addr) (F0:List Nat) (res:Option ((List SL×Int)×List UInt8)) (w:World) (e:Ending) (w':World):Prop:=(match res with
 | none=>e= .returned (.tuple #[.agg #[.slice none 0 0,.int .i64 0],.string (bs []),.bool false])
 | some r=>∃ A c css F,e= .returned (.tuple #[.agg #[.slice A r.1.1.length c,.int .i64 r.1.2],.string (bs r.2),.bool true])/\OX (kE smE) w' base 99 A r.1.1.length c css r.1.1 F)/\UpL (fun i=>blk A0=some i\/i∈F0) w w'
def dI (kd:Int) (ms:List Mx) (net:List SL) (s:Int):Option ((List SL×Int)×List UInt8):=if aL kd ms=true/\net.length<4 then some ((net++[(kd,(aP ms s).1)],(aP ms s).2),[111,107]) else none
theorem RI.one {α:Type} {E:Elt α} {w:World} {g:Nat} {T:TypeId} {cs:List Value} {x:α} {F:List Nat} (hb:Blk w g T cs.toArray) (hx:E.P w cs x F):RI E w (some ⟨g,0,none⟩) 1 1 [x] (g::F):=by
 refine⟨rfl,Nat.le_refl _,by unfold maxLen;omega,.inr ⟨g,0,[cs],F,rfl,hb.lt,rfl,?_,fun i c hi j hj=>?_⟩⟩
 ·have h:=dJ.push (E:=E) (w:=w) (css:=[]) (xs:=[]) (F:=[]) rfl hx
  simpa using h
 ·have hi0:i=0:=by
   rcases Nat.eq_zero_or_pos i with h|h
   ·exact h
   ·rw[List.getElem?_eq_none (by simp;omega)] at hi;cases hi
  subst hi0;injection hi with hi;subst hi;rw[Nat.zero_mul,Nat.zero_add,Nat.zero_add,hb.cell j]
  simp
theorem nE {kd s:Int} {net:List SL} {ms:List Mx} (hl:aL kd ms=false) (hs:sdB s=true) {base n c many c2 gk:Nat} {A B:Option Addr} {css:List (List Value)} {F FM:List Nat} (w:World) (hbw:base<=w.heap.size) (hn:n=net.length) (hmany:ms.length=many) (hox:OX (kE smE) w base 99 A n c css net F) (hms:RI mxE w B many c2 ms FM) (hmv:∀ m,m∈ms->mvB m=true) (hm3:many<=3) (hgk:Blk w gk 3 #[.int .i64 kd]) :
  Calls prog 123 #[.agg #[.slice A n c,.int .i64 s],.slice B many c2,.pointer (some ⟨gk,0,none⟩)] w (qY base A F (dI kd ms net s) w):=by
 subst hn hmany;have hm5:∀ m,m∈ms->mS m:=fun m hm=>by have:=(dy (hmv m hm)).2;unfold mS;omega
 have hm6:ms.length<=1048576:=by omega
 have hkc:=hgk.cell 0;have zgk:=hgk.lt;have HPA:Hid (dI kd ms net s=none):=by unfold Hid dI;rw[if_neg (by rw[hl];simp)]
 have HZ:=Qh (Hq.rs0 hox);have HBW:=Qh hbw;have HOX:=Qh hox;have HMS:=Qh hms;have HSD:=Qh hs;have HM5:=Qh hm5;have HM6:=Qh hm6;have HL:=Qh hl;clear hox hms hs hm5 hm6 hmv hl hgk hbw;refine zE ?_;intro u1 H;have hms1:=RI.below HMS.out H.O;replace H:=HZ.out.join H (by repeat constructor)
 refine zB (ny HL.out HM5.out HM6.out u1 (RI.one (E:=kE mxE) (cs:=[.int .i64 kd,.slice B ms.length c2]) (x:=(kd,ms)) (H.k 0) ⟨B,c2,rfl,hms1⟩)) ?_;clear H;intro w2 u2 H;refine zS_ ?_;clear H;intro u3 H
 exact(by obtain⟨h1,h2⟩:=Hq.rsX HOX.out HBW.out (((H.d 0).d 0).d 0);rw[show dI kd ms net s=_ from HPA.out];exact⟨rfl,h2⟩)
theorem mC {kd s:Int} {net:List SL} {ms:List Mx} (hl:aL kd ms=true) (h4:4<=net.length) (hs:sdB s=true) {base n c many c2 gk:Nat} {A B:Option Addr} {css:List (List Value)} {F FM:List Nat} (w:World) (hbw:base<=w.heap.size) (hn:n=net.length) (hmany:ms.length=many) (hox:OX (kE smE) w base 99 A n c css net F) (hms:RI mxE w B many c2 ms FM) (hmv:∀ m,m∈ms->mvB m=true) (hm3:many<=3) (hgk:Blk w gk 3 #[.int .i64 kd]) :
  Calls prog 123 #[.agg #[.slice A n c,.int .i64 s],.slice B many c2,.pointer (some ⟨gk,0,none⟩)] w (qY base A F (dI kd ms net s) w):=by
 subst hn hmany;have hm5:∀ m,m∈ms->mS m:=fun m hm=>by have:=(dy (hmv m hm)).2;unfold mS;omega
 have hm6:ms.length<=1048576:=by omega
 have hkc:=hgk.cell 0;have zgk:=hgk.lt;have HPA:Hid (dI kd ms net s=none):=by unfold Hid dI;rw[if_neg (by omega)]
 have hqs:sdB (aP ms s).2=true:=fE hs (lD hl);obtain⟨y2,hq⟩:∃ y,y=(aP ms s).2:=⟨_,rfl⟩;have HQ:Hid ((aP ms s).2=y2):=hq.symm;rw[<-hq] at hqs;have hq0:¬y2=0:=by have:=dH hqs;omega
 have hqb:(y2 == 0)=false:=by simpa using hq0
 clear hqs hq;have HZ:=Qh (Hq.rs0 hox);have HBW:=Qh hbw;have HOX:=Qh hox;have HMS:=Qh hms;have HSD:=Qh hs;have HM5:=Qh hm5;have HM6:=Qh hm6;have HL:=Qh hl;clear hox hms hs hm5 hm6 hmv hl hgk hbw;refine zE ?_;intro u1 H;have hms1:=RI.below HMS.out H.O;replace H:=HZ.out.join H (by repeat constructor)
 refine zG (DI HL.out HSD.out u1 (RI.one (E:=kE mxE) (cs:=[.int .i64 kd,.slice B ms.length c2]) (x:=(kd,ms)) (H.k 0) ⟨B,c2,rfl,hms1⟩)) ?_;rintro e w2 ⟨gj,A2,m2,css2,F2,rfl,hbj,hox2,hge,hb⟩;replace H:=H.add hb ((qB gj 99 [.int .i64 kd,.slice A2 ms.length m2]).and (qX smE (gj+1) 82 A2 ms.length m2 css2 (aP ms s).1 F2)) ⟨hbj,hox2⟩ (fun i hi=>by rcases hi with h|h|h;(have h:i=gj:=h;omega);(have:=(hox2.aj i h).1;omega);(have:=(hox2.2.2.2.1.2 i h).1;omega))
 replace H:=H.spl (fun i hi h=>by have e:i=gj:=hi;rcases h with h|h;(have:=(hox2.aj i h).1;omega);(have:=(hox2.2.2.2.1.2 i h).1;omega))
 clear hbj hox2 hge hb hms1;rw[HQ.out];have e4:(4:Int)<=(net.length:Int):=by omega
 refine zS_ ?_;clear H;intro u3 H
 exact(by obtain⟨h1,h2⟩:=Hq.rsX HOX.out HBW.out (((((H.d 0).d 0).d 0).d 0).d 0);rw[show dI kd ms net s=_ from HPA.out];exact⟨rfl,h2⟩)
theorem oT {kd s:Int} {net:List SL} {ms:List Mx} (hl:aL kd ms=true) (h4:net.length<4) (hs:sdB s=true) {base n c many c2 gk:Nat} {A B:Option Addr} {css:List (List Value)} {F FM:List Nat} (w:World) (hbw:base<=w.heap.size) (hn:n=net.length) (hmany:ms.length=many) (hox:OX (kE smE) w base 99 A n c css net F) (hms:RI mxE w B many c2 ms FM) (hmv:∀ m,m∈ms->mvB m=true) (hm3:many<=3) (hgk:Blk w gk 3 #[.int .i64 kd]) :
  Calls prog 123 #[.agg #[.slice A n c,.int .i64 s],.slice B many c2,.pointer (some ⟨gk,0,none⟩)] w (qY base A F (dI kd ms net s) w):=by
 subst hn hmany;have hm5:∀ m,m∈ms->mS m:=fun m hm=>by have:=(dy (hmv m hm)).2;unfold mS;omega
 have hm6:ms.length<=1048576:=by omega
 have hkc:=hgk.cell 0;have zgk:=hgk.lt;have hqs:sdB (aP ms s).2=true:=fE hs (lD hl);obtain⟨y2,hq⟩:∃ y,y=(aP ms s).2:=⟨_,rfl⟩;have HQ:Hid ((aP ms s).2=y2):=hq.symm;rw[<-hq] at hqs;have hq0:¬y2=0:=by have:=dH hqs;omega
 have hqb:(y2 == 0)=false:=by simpa using hq0
 have HPA:Hid (dI kd ms net s=some ((net++[(kd,(aP ms s).1)],y2),[111,107])):=by unfold Hid dI;rw[if_pos ⟨hl,h4⟩,hq]
 have hll:(net++[(kd,(aP ms s).1)]).length=net.length+1:=by simp
 clear hqs hq;have HZ:=Qh (Hq.rs0 hox);have HBW:=Qh hbw;have HOX:=Qh hox;have HMS:=Qh hms;have HSD:=Qh hs;have HM5:=Qh hm5;have HM6:=Qh hm6;have HL:=Qh hl;clear hox hms hs hm5 hm6 hmv hl hgk hbw;refine zE ?_;intro u1 H;have hms1:=RI.below HMS.out H.O;replace H:=HZ.out.join H (by repeat constructor)
 refine zG (DI HL.out HSD.out u1 (RI.one (E:=kE mxE) (cs:=[.int .i64 kd,.slice B ms.length c2]) (x:=(kd,ms)) (H.k 0) ⟨B,c2,rfl,hms1⟩)) ?_;rintro e w2 ⟨gj,A2,m2,css2,F2,rfl,hbj,hox2,hge,hb⟩;replace H:=H.add hb ((qB gj 99 [.int .i64 kd,.slice A2 ms.length m2]).and (qX smE (gj+1) 82 A2 ms.length m2 css2 (aP ms s).1 F2)) ⟨hbj,hox2⟩ (fun i hi=>by rcases hi with h|h|h;(have h:i=gj:=h;omega);(have:=(hox2.aj i h).1;omega);(have:=(hox2.2.2.2.1.2 i h).1;omega))
 replace H:=H.spl (fun i hi h=>by have e:i=gj:=hi;rcases h with h|h;(have:=(hox2.aj i h).1;omega);(have:=(hox2.2.2.2.1.2 i h).1;omega))
 clear hbj hox2 hge hb hms1;rw[HQ.out];have e4:¬(4:Int)<=(net.length:Int):=by omega
 replace e4:=Int.not_le.1 e4;refine zC ?_;intro C;intros
 go_wp2_with (at_builtin;refine zM ?_)
 clear H C;intro u3 H;obtain⟨F3,hri,hf,hF⟩:=OX.rf (H.x 1);have hx:(kE smE).P u3 [.int .i64 kd,.slice A2 ms.length m2] (kd,(aP ms s).1) F3:=⟨A2,m2,by rw[hri.1],by rw[hri.1];exact hri⟩
 replace H:=((H.r 1).r 5);refine zAx (an4 zY hx (hf.mono (Nat.zero_le _:(fI w).heap.size<=_)) hF) ?_;clear H hri hx hf hF;intro g1 k1 w31 H;refine zS_ ?_;clear H;intro u32 H
 exact(by obtain⟨h1,h2⟩:=Hq.rsX HOX.out HBW.out ((((H.d 1).d 1).d 1).d 1);rw[show dI kd ms net s=_ from HPA.out];exact⟨⟨some ⟨g1,0,none⟩,k1,_,_,by dsimp only;rw[hll];rfl,by dsimp only;rw[hll];exact h1⟩,h2⟩)
end
section
attribute [local go_sem] af ah ae
theorem jg {m:Mx} {s:Int} (hm:mvB m=true) (hs:sdB s=true):okS (cH m s).1=true/\(cH m s).1.1.r=m.r/\(cH m s).1.1.c=m.c/\sdB (cH m s).2=true:=by
 rw[lS hm hs];have h:=nO hm s;obtain⟨h1,h2,h3⟩:=kW h
 exact⟨aY (bU (aA hm).1 (aA hm).2) h1 h2.symm h3.symm,rfl,rfl,o9 hs _⟩
theorem mg {net:List SL} (h:bu net=true):GH (kS smS) net:=by
 obtain⟨h1,h2⟩:=du h;refine⟨by omega,fun l hl=>⟨by have:=kU (h2 l hl);omega,fun p hp=>?_⟩⟩
 have:=fs (mW (h2 l hl) p hp)
 exact⟨by unfold mS;omega,by unfold mS;omega⟩
def ic (m:Mx) (net:List SL) (s:Int):Option ((List SL×Int)×List UInt8):=if (bE (bh net) (some (m.r,m.c))).isSome=true then some ((net,(fD net (cH m s)).2),mt (aq (fD net (cH m s)).1)) else none
theorem tm {net:List SL} (hok:bu net=true) {m:Mx} {s:Int} (hm:mvB m=true) (hs:sdB s=true) (hf:(bE (bh net) (some (m.r,m.c))).isSome=true):okS (fD net (cH m s)).1=true/\sdB (fD net (cH m s)).2=true:=by
 obtain⟨h1,h2,h3,h4⟩:=jg hm hs
 cases e:bE (bh net) (some (m.r,m.c)) with
 | none=>rw[e] at hf;cases hf
 | some rc =>
  rw[eL hok] at e;obtain⟨d1,_,_,d4⟩:=yi (du hok).2 (z:=cH m s) (rc:=(m.r,m.c)) ⟨h1,h2,h3,h4⟩ e
  exact⟨d1,d4⟩
def eu (m:Mx) (net:List SL) (s:Int):Option ((List SL×Int)×List UInt8):=if (bE (bh net) (some (m.r,m.c))).isSome=true then some ((net,s),nt [(ndN (bh net) (Nd.z,some (m.r,m.c))).1.a,(ndN (bh net) (Nd.z,some (m.r,m.c))).1.b,(ndN (bh net) (Nd.z,some (m.r,m.c))).1.c,(ndN (bh net) (Nd.z,some (m.r,m.c))).1.d]) else none
theorem mF {s:Int} {net:List SL} {m:Mx} (hok:bu net=true) (hmv:mvB m=true) (hs:sdB s=true) (hfit:(bE (bh net) (some (m.r,m.c))).isSome=false) {base n c c2:Nat} {A B:Option Addr} {css:List (List Value)} {F FM:List Nat} (w:World) (hbw:base<=w.heap.size) (hn:n=net.length) (hox:OX (kE smE) w base 99 A n c css net F) (hms:RI mxE w B 1 c2 [m] FM) :
  Calls prog 78 #[.agg #[.slice A n c,.int .i64 s],.slice B 1 c2] w (qY base A F (ic m net s) w):=by
 obtain⟨F2,hri,_⟩:=hox.ri;obtain⟨b,off,cs,F1,rfl,hbl,hc,_,P1,q1,rfl,hp1⟩:=hms.cells (i:=0) (x:=m) rfl 3 rfl;have a0:w.cell? ⟨b,off,none⟩=some (.int .i64 m.r):=by have:=hc 0 (by omega);simpa using this
 have a1:w.cell? ⟨b,off+1,none⟩=some (.int .i64 m.c):=by have:=hc 1 (by omega);simpa using this
 have a2:w.cell? ⟨b,off+2,none⟩=some (.slice P1 m.v.length q1):=by have:=hc 2 (by omega);simpa using this
 have hrm:=RM.mk (m:=m) hp1.1 hp1.2.1 hp1.2.2.1;have hr:=(aA hmv).1;have hcc:=(aA hmv).2;subst hn;obtain⟨hz1,hz2,hz3,hz4⟩:=jg hmv hs;obtain⟨z,hz⟩:∃ z,z=cH m s:=⟨_,rfl⟩;rw[<-hz] at hz1 hz2 hz3 hz4;have hfz:(bE (bh net) (some (z.1.1.r,z.1.1.c))).isSome=false:=by rw[hz2,hz3];exact hfit
 have hns:=mg hok;have hpa:ic m net s=none:=by unfold ic;rw[if_neg (by rw[hfit];simp)]
 have HOK:=Qh hok;have HMV:=Qh hmv;have HFIT:=Qh hfit;have HBW:=Qh hbw;have HOX:=Qh hox;have HRI:=Qh hri;have HRM:=Qh hrm;have HR:=Qh hr;have HCC:=Qh hcc;clear hok hmv hfit hbw hox hri hrm hr hcc;have HSD:=Qh hs;have HZ:=Qh hz;have HZ1:=Qh hz1;have HZ4:=Qh hz4;have HFZ:=Qh hfz;have HNS:=Qh hns;clear hs hz hz1 hz4 hfz hns;have HPA:=Qh hpa;clear hpa hc hp1 hz2 hz3 hms;refine zE ?_;intro u1 H;have zb:=Nat.lt_of_lt_of_le hbl H.m;have E:=H.el;refine zXF (tgF [w.heap.size,b] 9 7 (.cells #[.int .i64 0,.int .i64 0,.slice none 0 0,.int .i64 0,.int .i64 0,.slice none 0 0] 82)) ?_;clear H;intro S w2 hne H;refine zD (H.c 1) ?_;intro G;have r0:=H.row ((H.O.cell (p:=⟨b,off,none⟩) hbl).trans a0);have r1:=H.row ((H.O.cell (p:=⟨b,off+1,none⟩) hbl).trans a1);have r2:=H.row ((H.O.cell (p:=⟨b,off+2,none⟩) hbl).trans a2);intros;refine f_ (fun w3 (hb:Bw w2 w3)=>(show Calls prog 125 #[_,_] w3 (tI z.1 z.2 w3) from by rw[HZ.out];exact e8 HMV.out HSD.out w3 (RM.below HRM.out (H.b hb).O))) ?_;clear H
 rintro w3 K hK H e w4 ⟨X,Y,cx,cy,rfl,f1,f2,-,hb⟩;replace H:=H.ss hb f1 f2;clear f1 f2;refine fK ?_;clear hK K hb;refine yG ?_;clear H;intro w5 g5 hg5 H;refine yS ?_;clear H;intro w6 H;refine yN ?_;clear H G;intro u7 H;refine zB (nx HOK.out HNS.out HZ1.out HZ4.out HFZ.out u7 (HRI.out.below H.O) (H.rs 1)) ?_;clear H;intro w8 u8 H;refine zS_ ?_;clear H;intro u9 H
 exact(by rw[show ic m net s=none from HPA.out];exact⟨rfl,UpL.eW H.O⟩)
theorem nG {s:Int} {net:List SL} {m:Mx} (hok:bu net=true) (hmv:mvB m=true) (hs:sdB s=true) (hfit:(bE (bh net) (some (m.r,m.c))).isSome=true) {base n c c2:Nat} {A B:Option Addr} {css:List (List Value)} {F FM:List Nat} (w:World) (ht:Tab w) (hbw:base<=w.heap.size) (hn:n=net.length) (hox:OX (kE smE) w base 99 A n c css net F) (hms:RI mxE w B 1 c2 [m] FM) :
  Calls prog 78 #[.agg #[.slice A n c,.int .i64 s],.slice B 1 c2] w (qY base A F (ic m net s) w):=by
 obtain⟨F2,hri,_⟩:=hox.ri;obtain⟨b,off,cs,F1,rfl,hbl,hc,_,P1,q1,rfl,hp1⟩:=hms.cells (i:=0) (x:=m) rfl 3 rfl;have a0:w.cell? ⟨b,off,none⟩=some (.int .i64 m.r):=by have:=hc 0 (by omega);simpa using this
 have a1:w.cell? ⟨b,off+1,none⟩=some (.int .i64 m.c):=by have:=hc 1 (by omega);simpa using this
 have a2:w.cell? ⟨b,off+2,none⟩=some (.slice P1 m.v.length q1):=by have:=hc 2 (by omega);simpa using this
 have hrm:=RM.mk (m:=m) hp1.1 hp1.2.1 hp1.2.2.1;have hr:=(aA hmv).1;have hcc:=(aA hmv).2;subst hn;obtain⟨hz1,hz2,hz3,hz4⟩:=jg hmv hs;obtain⟨z,hz⟩:∃ z,z=cH m s:=⟨_,rfl⟩;rw[<-hz] at hz1 hz2 hz3 hz4;have hfz:(bE (bh net) (some (z.1.1.r,z.1.1.c))).isSome=true:=by rw[hz2,hz3];exact hfit
 have hns:=mg hok;have hpa:ic m net s=some ((net,(fD net z).2),mt (aq (fD net z).1)):=by unfold ic;rw[if_pos hfit,hz]
 obtain⟨hy1,hy2⟩:=tm hok hmv hs hfit;obtain⟨y,hy⟩:∃ y,y=fD net z:=⟨_,rfl⟩;rw[<-hz,<-hy] at hy1 hy2;rw[<-hy] at hpa;have hy':y=fD net (z.1,z.2):=hy;have hjl:(aq y.1).v.length<=1048576:=by have:=(dy (aN hy1).1).2;omega
 have hynz:¬y.2=0:=by have:=dH hy2;omega
 have hynb:(y.2 == 0)=false:=by simpa using hynz
 have HOK:=Qh hok;have HMV:=Qh hmv;have HFIT:=Qh hfit;have HBW:=Qh hbw;have HOX:=Qh hox;have HRI:=Qh hri;have HRM:=Qh hrm;have HR:=Qh hr;have HCC:=Qh hcc;clear hok hmv hfit hbw hox hri hrm hr hcc;have HSD:=Qh hs;have HZ:=Qh hz;have HZ1:=Qh hz1;have HZ4:=Qh hz4;have HFZ:=Qh hfz;have HNS:=Qh hns;clear hs hz hz1 hz4 hfz hns;have HPA:=Qh hpa;have HY:=Qh hy';have HY1:=Qh hy1;have HJL:=Qh hjl;have HT:=Qh ht;clear hpa hc hp1 hz2 hz3 hms hy hy' hy1 hy2 hjl ht;refine zE ?_;intro u1 H;have zb:=Nat.lt_of_lt_of_le hbl H.m;have E:=H.el;refine zXF (tgF [w.heap.size,b] 9 7 (.cells #[.int .i64 0,.int .i64 0,.slice none 0 0,.int .i64 0,.int .i64 0,.slice none 0 0] 82)) ?_;clear H;intro S w2 hne H;refine zD (H.c 1) ?_;intro G;have r0:=H.row ((H.O.cell (p:=⟨b,off,none⟩) hbl).trans a0);have r1:=H.row ((H.O.cell (p:=⟨b,off+1,none⟩) hbl).trans a1);have r2:=H.row ((H.O.cell (p:=⟨b,off+2,none⟩) hbl).trans a2);intros;refine f_ (fun w3 (hb:Bw w2 w3)=>(show Calls prog 125 #[_,_] w3 (tI z.1 z.2 w3) from by rw[HZ.out];exact e8 HMV.out HSD.out w3 (RM.below HRM.out (H.b hb).O))) ?_;clear H
 rintro w3 K hK H e w4 ⟨X,Y,cx,cy,rfl,f1,f2,-,hb⟩;replace H:=H.ss hb f1 f2;clear f1 f2;refine fK ?_;clear hK K hb;refine yG ?_;clear H;intro w5 g5 hg5 H;refine yS ?_;clear H;intro w6 H;refine yN ?_;clear H G;intro u7 H;refine zG ((show Calls prog 126 #[_,_,_] u7 (pM y.1 y.2 u7) from by rw[HY.out];exact oM HOK.out HNS.out HZ1.out HZ4.out HFZ.out u7 (HRI.out.below H.O) (H.rs 1))) ?_
 rintro e w8 ⟨PA,pa,PB,pb,C1,cm,ck,cv,rfl,h1,h2,h3,hb⟩;replace H:=H.so hb h1 h2 h3;clear h1 h2 h3 hb;refine zN ?_;clear H;intro u9 H;refine zX (tg [w8.heap.size,w.heap.size]) ?_;clear H;intro S w10 hne H;refine zD ((And.intro (H.c 0) (H.c 5))) ?_;intro G;refine yO (iJ HY1.out w10 (qS.rs (Ow.P1 (H.p 1)))) ?_;clear H;intro w11 J cJ H;refine yB (qe (aq y.1).r (aq y.1).c (aq y.1).v J _ cJ w11 (HT.out.below H.O Ql) (H.o 0).si HJL.out (H.o 0).dC.1 (H.o 0).dC.2) ?_;clear H;intro w12 H;refine yS ?_;clear H;intro w13 H;refine yN ?_;clear H G;intro u14 H;refine zS_ ?_;clear H;intro u15 H
 exact(by rw[show ic m net s=some _ from HPA.out];exact⟨⟨A,c,css,F,rfl,HOX.out.below H.O⟩,UpL.eW H.O⟩)
theorem sY {s:Int} {net:List SL} {m:Mx} (hok:bu net=true) (hmv:mvB m=true) (hfit:(bE (bh net) (some (m.r,m.c))).isSome=false) {base n c c2:Nat} {A B:Option Addr} {css:List (List Value)} {F FM:List Nat} (w:World) (hbw:base<=w.heap.size) (hn:n=net.length) (hox:OX (kE smE) w base 99 A n c css net F) (hms:RI mxE w B 1 c2 [m] FM) :
  Calls prog 79 #[.agg #[.slice A n c,.int .i64 s],.slice B 1 c2] w (qY base A F (eu m net s) w):=by
 obtain⟨F2,hri,_⟩:=hox.ri;obtain⟨b,off,cs,F1,rfl,hbl,hc,_,P1,q1,rfl,hp1⟩:=hms.cells (i:=0) (x:=m) rfl 3 rfl;have a0:w.cell? ⟨b,off,none⟩=some (.int .i64 m.r):=by have:=hc 0 (by omega);simpa using this
 have a1:w.cell? ⟨b,off+1,none⟩=some (.int .i64 m.c):=by have:=hc 1 (by omega);simpa using this
 have a2:w.cell? ⟨b,off+2,none⟩=some (.slice P1 m.v.length q1):=by have:=hc 2 (by omega);simpa using this
 have hrm:=RM.mk (m:=m) hp1.1 hp1.2.1 hp1.2.2.1;have hr:=(aA hmv).1;have hcc:=(aA hmv).2;subst hn;have hns:=mg hok;have hnv:=eN hok;have hpa:eu m net s=none:=by unfold eu;rw[if_neg (by rw[hfit];simp)]
 have HOK:=Qh hok;have HMV:=Qh hmv;have HFIT:=Qh hfit;have HBW:=Qh hbw;have HOX:=Qh hox;have HRI:=Qh hri;have HRM:=Qh hrm;have HR:=Qh hr;have HCC:=Qh hcc;clear hok hmv hfit hbw hox hri hrm hr hcc;have HNS:=Qh hns;have HNV:=Qh hnv;clear hns hnv;have HPA:=Qh hpa;clear hpa hc hp1 hms;refine zE ?_;intro u1 H;refine zG (FV _ _ _ net _ u1 (HRI.out.below H.O) HNS.out) ?_;rintro e w2 ⟨AJ,nj,cj,FJ,rfl,hrj,hfr,hb⟩;replace H:=H.rf hb hrj hfr;rw[HOK.out];obtain rfl:=hrj.len;clear hrj hfr hb;refine zN ?_;clear H;intro u3 H;have zb:=Nat.lt_of_lt_of_le hbl H.m;refine zX (tg [b]) ?_;clear H;intro S w4 hne H;have r0:=H.row ((H.O.cell (p:=⟨b,off,none⟩) hbl).trans a0);have r1:=H.row ((H.O.cell (p:=⟨b,off+1,none⟩) hbl).trans a1);have r2:=H.row ((H.O.cell (p:=⟨b,off+2,none⟩) hbl).trans a2);refine yN ?_;clear H;intro u5 H;refine zG ((show Calls prog 61 #[_,_,_] u5 (NSd false u5) from by rw[<-HFIT.out];exact eo HNV.out HR.out HCC.out u5 (H.f 0).1 dU)) ?_
 rintro e w6 ⟨x0,y0,rfl,hb⟩;replace H:=H.b hb;refine zS_ ?_;clear H;intro u7 H
 exact(by rw[show eu m net s=none from HPA.out];exact⟨rfl,UpL.eW H.O⟩)
theorem uP {s:Int} {net:List SL} {m:Mx} (hok:bu net=true) (hmv:mvB m=true) (hfit:(bE (bh net) (some (m.r,m.c))).isSome=true) {base n c c2:Nat} {A B:Option Addr} {css:List (List Value)} {F FM:List Nat} (w:World) (ht:Tab w) (hbw:base<=w.heap.size) (hn:n=net.length) (hox:OX (kE smE) w base 99 A n c css net F) (hms:RI mxE w B 1 c2 [m] FM) :
  Calls prog 79 #[.agg #[.slice A n c,.int .i64 s],.slice B 1 c2] w (qY base A F (eu m net s) w):=by
 obtain⟨F2,hri,_⟩:=hox.ri;obtain⟨b,off,cs,F1,rfl,hbl,hc,_,P1,q1,rfl,hp1⟩:=hms.cells (i:=0) (x:=m) rfl 3 rfl;have a0:w.cell? ⟨b,off,none⟩=some (.int .i64 m.r):=by have:=hc 0 (by omega);simpa using this
 have a1:w.cell? ⟨b,off+1,none⟩=some (.int .i64 m.c):=by have:=hc 1 (by omega);simpa using this
 have a2:w.cell? ⟨b,off+2,none⟩=some (.slice P1 m.v.length q1):=by have:=hc 2 (by omega);simpa using this
 have hrm:=RM.mk (m:=m) hp1.1 hp1.2.1 hp1.2.2.1;have hr:=(aA hmv).1;have hcc:=(aA hmv).2;subst hn;have hns:=mg hok;have hnv:=eN hok;obtain⟨N,hnd⟩:∃ N,N=(ndN (bh net) (Nd.z,some (m.r,m.c))).1:=⟨_,rfl⟩;have hpa:eu m net s=some ((net,s),nt [N.a,N.b,N.c,N.d]):=by unfold eu;rw[if_pos hfit,hnd]
 have HOK:=Qh hok;have HMV:=Qh hmv;have HFIT:=Qh hfit;have HBW:=Qh hbw;have HOX:=Qh hox;have HRI:=Qh hri;have HRM:=Qh hrm;have HR:=Qh hr;have HCC:=Qh hcc;clear hok hmv hfit hbw hox hri hrm hr hcc;have HNS:=Qh hns;have HNV:=Qh hnv;clear hns hnv;have HPA:=Qh hpa;have HND:=Qh hnd;have HT:=Qh ht;clear hpa hc hp1 hms hnd ht;refine zE ?_;intro u1 H;refine zG (FV _ _ _ net _ u1 (HRI.out.below H.O) HNS.out) ?_;rintro e w2 ⟨AJ,nj,cj,FJ,rfl,hrj,hfr,hb⟩;replace H:=H.rf hb hrj hfr;rw[HOK.out];obtain rfl:=hrj.len;clear hrj hfr hb;refine zN ?_;clear H;intro u3 H;have zb:=Nat.lt_of_lt_of_le hbl H.m;refine zX (tg [b]) ?_;clear H;intro S w4 hne H;have r0:=H.row ((H.O.cell (p:=⟨b,off,none⟩) hbl).trans a0);have r1:=H.row ((H.O.cell (p:=⟨b,off+1,none⟩) hbl).trans a1);have r2:=H.row ((H.O.cell (p:=⟨b,off+2,none⟩) hbl).trans a2);refine yN ?_;clear H;intro u5 H;refine zG ((show Calls prog 61 #[_,_,_] u5 (NSd true u5) from by rw[<-HFIT.out];exact eo HNV.out HR.out HCC.out u5 (H.f 0).1 dU)) ?_
 rintro e w6 ⟨x0,y0,rfl,hb⟩;replace H:=H.b hb;refine zN ?_;clear H;intro u7 H;refine zX (tg [w.heap.size]) ?_;clear H;intro S w8 hne H;refine zD (H.c 2) ?_;intro G;refine yB ((show Calls prog 128 #[_,_,_] w8 (fb N w8) from by rw[HND.out];exact rC HNV.out HR.out HCC.out HFIT.out w8 (H.f 0).1 dU)) ?_;clear H;intro w9 H
 refine yB (rD N.a N.b N.c N.d w9 (HT.out.below H.O Ql)) ?_;clear H;intro w10 H;refine yS ?_;clear H;intro w11 H;refine yN ?_;clear H G;intro u12 H;refine zS_ ?_;clear H;intro u13 H
 exact(by rw[show eu m net s=some _ from HPA.out];exact⟨⟨A,c,css,F,rfl,HOX.out.below H.O⟩,UpL.eW H.O⟩)
end
section
attribute [local go_sem] af ah ae
open Go.Maps
def RH (v:Value):Option (DataW Value×List MemPlace):=some (.held v,[])
def qZ (g1 g2 g3:Nat):DataW Value:= .map [(.string [100,101,110,115,101],.held (.agg #[.int .i64 2,.func (.func 123) #[] #[.pointer (some ⟨g1,0,none⟩)]])),(.string [109,105,120],.held (.agg #[.int .i64 3,.func (.func 123) #[] #[.pointer (some ⟨g3,0,none⟩)]])),(.string [110,101,101,100,115],.held (.agg #[.int .i64 1,.func (.func 79) #[] #[]])),(.string [114,97,109,112],.held (.agg #[.int .i64 0,.func (.func 123) #[] #[.pointer (some ⟨g2,0,none⟩)]])),(.string [114,117,110],.held (.agg #[.int .i64 1,.func (.func 78) #[] #[]]))]
theorem jH (kd:Int) (w:World):Calls prog 77 #[.int .i64 kd] w fun e w'=>e= .returned (.func (.func 123) #[] #[.pointer (some ⟨w.heap.size,0,none⟩)])/\w'=w.alloc (.cells #[.int .i64 kd] 3):=by
 go_enter func77,ntmps77
 go_wp2
 go_ret
 exact⟨rfl,rfl⟩
def CmR (w:World) (e:Ending) (w':World):Prop:=∃ g g1 g2 g3,e= .returned (.map (some g))/\w'.ownsMap prog 9 RH g 5 (qZ g1 g2 g3)/\Blk w' g1 3 #[.int .i64 1]/\Blk w' g2 3 #[.int .i64 2]/\Blk w' g3 3 #[.int .i64 3]/\(w.heap.size<=g1/\w.heap.size<=g2/\w.heap.size<=g3)/\Below w.heap.size w w'
theorem Blk.ik {w w':World} {g b:Nat} {t:TypeId} {cs:Array Value} (h:Blk w g t cs) (hg:w.grownBy w' (some b)) (hn:b≠g):Blk w' g t cs:=(hg.block g h.lt (fun e=>hn (by injection e with e;exact e.symm))).trans h
theorem Gc (w:World):Calls prog 35 #[] w (CmR w):=by
 have hmm:=@run_makeMap prog;have KK:Hid (Keyed prog 9):=string_keyed underlying9;have h0:Hid ((w.alloc (.map #[] 0)).ownsMap prog 9 RH w.heap.size 0 (.map [])):=World.ownsMap_made _ _ _ _;obtain⟨u0,hu⟩:∃ u,u=w.alloc (.map #[] 0):=⟨_,rfl⟩;rw[<-hu] at h0;have O:Hid (Below w.heap.size w u0):=Below.cast hu (Qb.alloc Ql _);have HU:=Qh hu;have zg:w.heap.size<u0.heap.size:=h0.out.lt;clear hu
 go_enter func35,ntmps35
 go_wp2_with fail
 rw[<-HU.out];refine(jH 1 u0).mono ?_;rintro e wx ⟨rfl,rfl⟩;obtain⟨g1,hg1⟩:∃ g,g=u0.heap.size:=⟨_,rfl⟩;rw[<-hg1];obtain⟨v1,hv1⟩:∃ v,v=u0.alloc (.cells #[.int .i64 1] 3):=⟨_,rfl⟩;rw[<-hv1];have hm0:Hid (World.ownsMap v1 prog 9 RH w.heap.size 0 (.map []:DataW Value)):=by rw[hv1];exact h0.out.alloc _
 replace O:Hid (Below w.heap.size w v1):=Below.cast hv1 (O.out.alloc O.out.size _);have bg1:Blk v1 g1 3 #[.int .i64 1]:=Blk.cast hv1 (Blk.iA hg1);have ng1:w.heap.size≠g1:=by have:=h0.out.lt;omega
 have gg1:w.heap.size<=g1:=by have:=h0.out.lt;omega
 clear hg1 hv1 h0;obtain⟨u1,hr1,hq1,hw1⟩:=hm0.out.update (t:=66) KK.out underlying66 (by unfold maxLen;omega) (key:= .string ⟨#[100,101,110,115,101]⟩) (WideMaps.keyOf_string_mk underlying9 (by decide)) (val:= .agg #[.int .i64 2,.func (.func 123) #[] #[.pointer (some ⟨g1,0,none⟩)]]) rfl
 replace O:Hid (Below w.heap.size w u1):=O.out.grown hw1 O.out.size (fun j hj=>by injection hj with hj;subst hj;exact Nat.le_refl _)
 replace bg1:=bg1.ik hw1 ng1;have h1:Hid (World.ownsMap u1 prog 9 RH w.heap.size 1 (DataW.put (.map []:DataW Value) (.string [100,101,110,115,101]) (.held (.agg #[.int .i64 2,.func (.func 123) #[] #[.pointer (some ⟨g1,0,none⟩)]])))):=hq1;clear hq1 hw1 hm0
 go_wp2_with fail
 refine(jH 2 u1).mono ?_;rintro e wx ⟨rfl,rfl⟩;obtain⟨g2,hg2⟩:∃ g,g=u1.heap.size:=⟨_,rfl⟩;rw[<-hg2];obtain⟨v2,hv2⟩:∃ v,v=u1.alloc (.cells #[.int .i64 2] 3):=⟨_,rfl⟩;rw[<-hv2];have hm1:Hid (World.ownsMap v2 prog 9 RH w.heap.size 1 (DataW.put (.map []:DataW Value) (.string [100,101,110,115,101]) (.held (.agg #[.int .i64 2,.func (.func 123) #[] #[.pointer (some ⟨g1,0,none⟩)]])))):=by rw[hv2];exact h1.out.alloc _
 replace O:Hid (Below w.heap.size w v2):=Below.cast hv2 (O.out.alloc O.out.size _);have bg2:Blk v2 g2 3 #[.int .i64 2]:=Blk.cast hv2 (Blk.iA hg2);have ng2:w.heap.size≠g2:=by have:=h1.out.lt;omega
 have gg2:w.heap.size<=g2:=by have:=h1.out.lt;omega
 replace bg1:=Blk.cast hv2 (bg1.alloc _);clear hg2 hv2 h1;obtain⟨u2,hr2,hq2,hw2⟩:=hm1.out.update (t:=66) KK.out underlying66 (by unfold maxLen;omega) (key:= .string ⟨#[114,97,109,112]⟩) (WideMaps.keyOf_string_mk underlying9 (by decide)) (val:= .agg #[.int .i64 0,.func (.func 123) #[] #[.pointer (some ⟨g2,0,none⟩)]]) rfl
 replace O:Hid (Below w.heap.size w u2):=O.out.grown hw2 O.out.size (fun j hj=>by injection hj with hj;subst hj;exact Nat.le_refl _)
 replace bg1:=bg1.ik hw2 ng1;replace bg2:=bg2.ik hw2 ng2;have h2:Hid (World.ownsMap u2 prog 9 RH w.heap.size 2 (DataW.put (DataW.put (.map []:DataW Value) (.string [100,101,110,115,101]) (.held (.agg #[.int .i64 2,.func (.func 123) #[] #[.pointer (some ⟨g1,0,none⟩)]]))) (.string [114,97,109,112]) (.held (.agg #[.int .i64 0,.func (.func 123) #[] #[.pointer (some ⟨g2,0,none⟩)]])))):=hq2;clear hq2 hw2 hm1
 go_wp2_with fail
 refine(jH 3 u2).mono ?_;rintro e wx ⟨rfl,rfl⟩;obtain⟨g3,hg3⟩:∃ g,g=u2.heap.size:=⟨_,rfl⟩;rw[<-hg3];obtain⟨v3,hv3⟩:∃ v,v=u2.alloc (.cells #[.int .i64 3] 3):=⟨_,rfl⟩;rw[<-hv3];have hm2:Hid (World.ownsMap v3 prog 9 RH w.heap.size 2 (DataW.put (DataW.put (.map []:DataW Value) (.string [100,101,110,115,101]) (.held (.agg #[.int .i64 2,.func (.func 123) #[] #[.pointer (some ⟨g1,0,none⟩)]]))) (.string [114,97,109,112]) (.held (.agg #[.int .i64 0,.func (.func 123) #[] #[.pointer (some ⟨g2,0,none⟩)]])))):=by rw[hv3];exact h2.out.alloc _
 replace O:Hid (Below w.heap.size w v3):=Below.cast hv3 (O.out.alloc O.out.size _);have bg3:Blk v3 g3 3 #[.int .i64 3]:=Blk.cast hv3 (Blk.iA hg3);have ng3:w.heap.size≠g3:=by have:=h2.out.lt;omega
 have gg3:w.heap.size<=g3:=by have:=h2.out.lt;omega
 replace bg1:=Blk.cast hv3 (bg1.alloc _);replace bg2:=Blk.cast hv3 (bg2.alloc _);clear hg3 hv3 h2;obtain⟨u3,hr3,hq3,hw3⟩:=hm2.out.update (t:=66) KK.out underlying66 (by unfold maxLen;omega) (key:= .string ⟨#[109,105,120]⟩) (WideMaps.keyOf_string_mk underlying9 (by decide)) (val:= .agg #[.int .i64 3,.func (.func 123) #[] #[.pointer (some ⟨g3,0,none⟩)]]) rfl
 replace O:Hid (Below w.heap.size w u3):=O.out.grown hw3 O.out.size (fun j hj=>by injection hj with hj;subst hj;exact Nat.le_refl _)
 replace bg1:=bg1.ik hw3 ng1;replace bg2:=bg2.ik hw3 ng2;replace bg3:=bg3.ik hw3 ng3;have h3:Hid (World.ownsMap u3 prog 9 RH w.heap.size 3 (DataW.put (DataW.put (DataW.put (.map []:DataW Value) (.string [100,101,110,115,101]) (.held (.agg #[.int .i64 2,.func (.func 123) #[] #[.pointer (some ⟨g1,0,none⟩)]]))) (.string [114,97,109,112]) (.held (.agg #[.int .i64 0,.func (.func 123) #[] #[.pointer (some ⟨g2,0,none⟩)]]))) (.string [109,105,120]) (.held (.agg #[.int .i64 3,.func (.func 123) #[] #[.pointer (some ⟨g3,0,none⟩)]])))):=hq3;clear hq3 hw3 hm2;have hm3:=h3;clear h3;obtain⟨u4,hr4,hq4,hw4⟩:=hm3.out.update (t:=66) KK.out underlying66 (by unfold maxLen;omega) (key:= .string ⟨#[114,117,110]⟩) (WideMaps.keyOf_string_mk underlying9 (by decide)) (val:= .agg #[.int .i64 1,.func (.func 78) #[] #[]]) rfl
 replace O:Hid (Below w.heap.size w u4):=O.out.grown hw4 O.out.size (fun j hj=>by injection hj with hj;subst hj;exact Nat.le_refl _)
 replace bg1:=bg1.ik hw4 ng1;replace bg2:=bg2.ik hw4 ng2;replace bg3:=bg3.ik hw4 ng3;have h4:Hid (World.ownsMap u4 prog 9 RH w.heap.size 4 (DataW.put (DataW.put (DataW.put (DataW.put (.map []:DataW Value) (.string [100,101,110,115,101]) (.held (.agg #[.int .i64 2,.func (.func 123) #[] #[.pointer (some ⟨g1,0,none⟩)]]))) (.string [114,97,109,112]) (.held (.agg #[.int .i64 0,.func (.func 123) #[] #[.pointer (some ⟨g2,0,none⟩)]]))) (.string [109,105,120]) (.held (.agg #[.int .i64 3,.func (.func 123) #[] #[.pointer (some ⟨g3,0,none⟩)]]))) (.string [114,117,110]) (.held (.agg #[.int .i64 1,.func (.func 78) #[] #[]])))):=hq4;clear hq4 hw4 hm3;have hm4:=h4;clear h4;obtain⟨u5,hr5,hq5,hw5⟩:=hm4.out.update (t:=66) KK.out underlying66 (by unfold maxLen;omega) (key:= .string ⟨#[110,101,101,100,115]⟩) (WideMaps.keyOf_string_mk underlying9 (by decide)) (val:= .agg #[.int .i64 1,.func (.func 79) #[] #[]]) rfl
 replace O:Hid (Below w.heap.size w u5):=O.out.grown hw5 O.out.size (fun j hj=>by injection hj with hj;subst hj;exact Nat.le_refl _)
 replace bg1:=bg1.ik hw5 ng1;replace bg2:=bg2.ik hw5 ng2;replace bg3:=bg3.ik hw5 ng3;have h5:Hid (World.ownsMap u5 prog 9 RH w.heap.size 5 (DataW.put (DataW.put (DataW.put (DataW.put (DataW.put (.map []:DataW Value) (.string [100,101,110,115,101]) (.held (.agg #[.int .i64 2,.func (.func 123) #[] #[.pointer (some ⟨g1,0,none⟩)]]))) (.string [114,97,109,112]) (.held (.agg #[.int .i64 0,.func (.func 123) #[] #[.pointer (some ⟨g2,0,none⟩)]]))) (.string [109,105,120]) (.held (.agg #[.int .i64 3,.func (.func 123) #[] #[.pointer (some ⟨g3,0,none⟩)]]))) (.string [114,117,110]) (.held (.agg #[.int .i64 1,.func (.func 78) #[] #[]]))) (.string [110,101,101,100,115]) (.held (.agg #[.int .i64 1,.func (.func 79) #[] #[]])))):=hq5;clear hq5 hw5 hm4;go_wp2
 go_ret
 have hd:(DataW.put (DataW.put (DataW.put (DataW.put (DataW.put (.map []:DataW Value) (.string [100,101,110,115,101]) (.held (.agg #[.int .i64 2,.func (.func 123) #[] #[.pointer (some ⟨g1,0,none⟩)]]))) (.string [114,97,109,112]) (.held (.agg #[.int .i64 0,.func (.func 123) #[] #[.pointer (some ⟨g2,0,none⟩)]]))) (.string [109,105,120]) (.held (.agg #[.int .i64 3,.func (.func 123) #[] #[.pointer (some ⟨g3,0,none⟩)]]))) (.string [114,117,110]) (.held (.agg #[.int .i64 1,.func (.func 78) #[] #[]]))) (.string [110,101,101,100,115]) (.held (.agg #[.int .i64 1,.func (.func 79) #[] #[]])))=qZ g1 g2 g3:=by kernel_rfl
 exact⟨w.heap.size,g1,g2,g3,rfl,hd ▸ h5.out,bg1,bg2,bg3,⟨gg1,gg2,gg3⟩,O.out⟩
end
abbrev Res:=(List SL×Int)×List UInt8
def fa:List UInt8:=[119,104,97,116]
def tNo:List UInt8:=[110,111]
def ei (n:List UInt8):Option (Nat×(List Mx->List SL->Int->Option Res)) :=
 if n=[100,101,110,115,101] then some (2,fun ms=>dI 1 ms)
 else if n=[114,97,109,112] then some (0,fun ms=>dI 2 ms)
 else if n=[109,105,120] then some (3,fun ms=>dI 3 ms)
 else if n=[114,117,110] then some (1,fun ms=>ic (ms.getD 0 Mx.z))
 else if n=[110,101,101,100,115] then some (1,fun ms=>eu (ms.getD 0 Mx.z))
 else none
def RdM (k:Nat) (t:List UInt8) (ms:List Mx):Prop:=ms.length=k/\(0<k->RdA (dm t) ms)
theorem RdM.one {k:Nat} {t:List UInt8} {a b:List Mx} (h:RdM k t a) (g:RdM k t b):a=b:=by
 rcases Nat.eq_zero_or_pos k with h0|h0
 ·have h1:=h.1;have h2:=g.1;rw[h0] at h1 h2;rw[List.eq_nil_of_length_eq_zero h1,List.eq_nil_of_length_eq_zero h2]
 ·exact(h.2 h0).one (g.2 h0)
def uV (k:Nat) (c:List UInt8×List UInt8×Bool):Prop:=(k=0/\c.2.2=true)\/(0<k/\c.2.1=[])
def LnR (net:List SL) (s:Int) (l:List UInt8) (r:Res):Prop :=
 match ei (Lib.cut l [32]).1 with
 | none=>r=((net,s),fa)
 | some (k,f)=>(uV k (Lib.cut l [32])/\r=((net,s),fa))\/(¬uV k (Lib.cut l [32]) /\
   ((∃ ms,RdM k (Lib.cut l [32]).2.1 ms/\r=(f ms net s).getD ((net,s),tNo))\/((∀ ms,¬RdM k (Lib.cut l [32]).2.1 ms)/\r=((net,s),tNo))))
theorem LnR.one {net:List SL} {s:Int} {l:List UInt8} {a b:Res} (h:LnR net s l a) (g:LnR net s l b):a=b:=by
 unfold LnR at h g
 cases e:ei (Lib.cut l [32]).1 with
 | none=>rw[e] at h g;rw[h,g]
 | some p =>
  rw[e] at h g;obtain⟨k,f⟩:=p
  dsimp only at h g
  rcases h with⟨h1,rfl⟩|⟨h1,h2⟩
  ·rcases g with⟨_,rfl⟩|⟨g1,_⟩
   ·rfl
   ·exact absurd h1 g1
  ·rcases g with⟨g1,_⟩|⟨_,g2⟩
   ·exact absurd g1 h1
   ·rcases h2 with⟨m1,hm1,rfl⟩|⟨h3,rfl⟩
    ·rcases g2 with⟨m2,hm2,rfl⟩|⟨g3,_⟩
     ·rw[hm1.one hm2]
     ·exact absurd hm1 (g3 _)
    ·rcases g2 with⟨m2,hm2,_⟩|⟨_,rfl⟩
     ·exact absurd hm2 (h3 _)
     ·rfl
def jO (net:List SL) (s:Int):Prop:=bu net=true/\sdB s=true
theorem wg {m:Mx} {s:Int} (hm:mvB m=true) (hs:sdB s=true):aq (cH m s).1=m:=by
 rw[lS hm hs];have hl:=nO hm s;obtain⟨l1,h1,h2,h3⟩:=cZ hm;have hok:=(jg hm hs).1;rw[lS hm hs] at hok
 show aE aJ (gB m.r m.c s) (aE bC m (gB m.r m.c s))=m
 rw[fi hok,fi hl];have hlen:nm m.r m.c=m.v.length:=by unfold nm;rw[<-l1];rfl
 have hrl:(gB m.r m.c s).v.length=m.v.length:=by unfold gB;rw[aD,hlen]
 rw[hrl];have hv:fl (pv aJ (gB m.r m.c s) ⟨m.r,m.c,fl (pv bC m (gB m.r m.c s)) m.v.length⟩) m.v.length=m.v:=by
  apply List.ext_getElem?
  intro i
  by_cases hi:i<m.v.length
  ·have hv:=kH hm i;have hr:=kH (bU h1 h2 (s:=s)) i;obtain⟨a1,a2⟩:=of_decide_eq_true hv;obtain⟨b1,b2⟩:=of_decide_eq_true hr;have e1:(fl (pv bC m (gB m.r m.c s)) m.v.length).getD i 0=bC (m.v.getD i 0) ((gB m.r m.c s).v.getD i 0):=by rw[fL _ _ _ hi];rfl
   have e2:(fl (pv aJ (gB m.r m.c s) ⟨m.r,m.c,fl (pv bC m (gB m.r m.c s)) m.v.length⟩) m.v.length)[i]?=some (aJ ((gB m.r m.c s).v.getD i 0) ((fl (pv bC m (gB m.r m.c s)) m.v.length).getD i 0)):=by
    unfold fl;rw[List.getElem?_map,List.getElem?_range hi]
    rfl
   rw[e2,e1,List.getElem?_eq_getElem hi];have e3:m.v.getD i 0=m.v[i]:=by rw[List.getD_eq_getElem?_getD,List.getElem?_eq_getElem hi];rfl
   rw[e3] at a1 a2 ⊢
   congr 1
   have hs1:bC m.v[i] ((gB m.r m.c s).v.getD i 0)=(m.v[i]-(gB m.r m.c s).v.getD i 0)%4096:=by unfold bC;rw[if_pos ⟨by rw[<-e3];exact hv,hr⟩]
   rw[hs1];unfold aJ;rw[if_pos ⟨hr,sl _⟩]
   omega
  ·rw[List.getElem?_eq_none (by rw[aD];omega),List.getElem?_eq_none (by omega)]
 rw[hv]
 rfl
theorem pr:∀ {ms:List Mx} {s:Int},sdB s=true->(∀ m,m∈ms->mvB m=true)->((aP ms s).1).map aq=ms
 | [],_,_,_=>rfl
 | m::ms,s,hs,h=>by
  have hm:=h m (List.mem_cons_self ..)
  show aq (cH m s).1::((aP ms (cH m s).2).1).map aq=_
  rw[wg hm hs,pr (jg hm hs).2.2.2 (fun x hx=>h x (List.mem_cons_of_mem _ hx))]
theorem qs {kd:Int} {ms:List Mx} {net:List SL} {s:Int} (h:jO net s) {r:Res} (e:dI kd ms net s=some r):jO r.1.1 r.1.2:=by
 unfold dI at e
 split at e
 ·rename_i hc
  injection e with e;subst e;have hmv:=lD hc.1;refine⟨?_,fE h.2 hmv⟩;obtain⟨n1,n2⟩:=du h.1;unfold bu;simp only[Bool.and_eq_true,decide_eq_true_eq,List.all_eq_true];refine⟨by simp;omega,fun l hl=>?_⟩
  rcases List.mem_append.1 hl with hl|hl
  ·exact n2 l hl
  ·simp at hl
   subst hl
   dsimp only
   rw[pr h.2 hmv]
   exact hc.1
 ·cases e
theorem yh {m:Mx} (hm:mvB m=true) {net:List SL} {s:Int} (h:jO net s) {r:Res} (e:ic m net s=some r):jO r.1.1 r.1.2:=by
 unfold ic at e
 split at e
 ·rename_i hc
  injection e with e;subst e
  exact⟨h.1,(tm h.1 hm h.2 hc).2⟩
 ·cases e
theorem wG {m:Mx} {net:List SL} {s:Int} (h:jO net s) {r:Res} (e:eu m net s=some r):jO r.1.1 r.1.2:=by
 unfold eu at e
 split at e
 ·injection e with e;subst e
  exact h
 ·cases e
theorem z7 {n:List UInt8} {k:Nat} {f:List Mx->List SL->Int->Option Res} (hc:ei n=some (k,f)) {ms:List Mx} (hk:ms.length=k) (hmv:∀ m,m∈ms->mvB m=true) {net:List SL} {s:Int} (h:jO net s) {r:Res} (e:f ms net s=some r):jO r.1.1 r.1.2:=by
 unfold ei at hc;have h1:k=1->mvB (ms.getD 0 Mx.z)=true:=fun hk1=>by
  rw[hk1] at hk;obtain⟨a,rfl⟩:=List.length_eq_one_iff.1 hk
  exact hmv _ (by simp)
 split at hc
 ·injection hc with hc;injection hc with h2 h3;subst h3;exact qs h e
 split at hc
 ·injection hc with hc;injection hc with h2 h3;subst h3;exact qs h e
 split at hc
 ·injection hc with hc;injection hc with h2 h3;subst h3;exact qs h e
 split at hc
 ·injection hc with hc;injection hc with h2 h3;subst h3;exact yh (h1 h2.symm) h e
 split at hc
 ·injection hc with hc;injection hc with h2 h3;subst h3;exact wG h e
 ·cases hc
theorem RdM.mv {k:Nat} {t:List UInt8} {ms:List Mx} (h:RdM k t ms):∀ m,m∈ms->mvB m=true:=by
 rcases Nat.eq_zero_or_pos k with h0|h0
 ·have h1:=h.1;rw[h0] at h1;rw[List.eq_nil_of_length_eq_zero h1];intro m hm;cases hm
 ·exact(h.2 h0).mv
theorem LnR.ok {net:List SL} {s:Int} {l:List UInt8} {r:Res} (h:LnR net s l r) (hs:jO net s):jO r.1.1 r.1.2:=by
 unfold LnR at h
 cases e:ei (Lib.cut l [32]).1 with
 | none=>rw[e] at h;dsimp only at h;rw[h];exact hs
 | some p =>
  rw[e] at h;obtain⟨k,f⟩:=p
  dsimp only at h
  rcases h with⟨_,rfl⟩|⟨_,⟨ms,h2,rfl⟩|⟨_,rfl⟩⟩
  ·exact hs
  ·cases e2:f ms net s with
   | none=>exact hs
   | some r=>exact z7 e h2.1 h2.mv hs e2
  ·exact hs
section
attribute [local go_sem] af ah ae
open Go.Maps
theorem Ac {l:List UInt8} (h:(Lib.cut l [32]).2.2=false):(Lib.cut l [32]).2.1=[]:=by
 unfold Lib.cut at h ⊢
 split at h
 ·cases h
 ·rename_i hh;rw[if_neg hh]
theorem tR (l:List UInt8):(Lib.cut l [32]).2.1.length<=l.length:=by
 unfold Lib.cut
 split
 ·simp
 ·simp
def RdK (t:List UInt8) (k:Nat) (w:World) (e:Ending) (w':World):Prop :=
 (∃ ms A c F,RdM k t ms/\e= .returned (.tuple #[.slice A k c,.bool true])/\RI mxE w' A k c ms F/\Fr w' w.heap.size F/\Below w.heap.size w w') \/
 ((∀ ms,¬RdM k t ms)/\e= .returned (.tuple #[.slice none 0 0,.bool false])/\Below w.heap.size w w')
theorem t_ (t:List UInt8) (hl:t.length<=1048576) (k:Nat) (h3:k<=3) (h0:k=0->t=[]) (w:World) (ht:Tab w) (hm:iD w):Calls prog 37 #[.string (bs t),.int .i64 (k:Int)] w (RdK t k w):=by
 rcases Nat.eq_zero_or_pos k with hk|hk
 ·obtain rfl:=hk;obtain rfl:=h0 rfl;refine(mE w).mono ?_;rintro e w' ⟨rfl,hb⟩
  exact .inl ⟨[],none,0,[],⟨rfl,fun h=>absurd h (by omega)⟩,rfl,RI.nil w' none (by unfold maxLen;omega),Fr.nil _ _,hb⟩
 ·refine(nF t hl k hk h3 w ht hm).mono ?_;rintro e w' (⟨ms,A,c,F,h1,h2,h3,h4,h6,h5⟩|⟨h1,h2,h3⟩)
  ·exact .inl ⟨ms,A,c,F,⟨h2,fun _=>h1⟩,h3,h4,h6,h5⟩
  ·exact .inr ⟨fun ms h=>h1 ms (h.2 hk) h.1,h2,h3⟩
def tH (K:World->Prop) (fid:FuncId) (caps:Array Value) (k:Nat) (f:List Mx->List SL->Int->Option Res):Prop :=
 (∀ (W:World) (args:Array Value),(callFunc fid args).run prog W= .ok (.enter fid args) W) /\
 ∀ (W:World) (net:List SL) (s:Int) (ms:List Mx) (base n c c2:Nat) (A B:Option Addr) (css:List (List Value)) (F FM:List Nat),K W->jO net s->(∀ m,m∈ms->mvB m=true)->ms.length=k->base<=W.heap.size->n=net.length ->
  OX (kE smE) W base 99 A n c css net F->RI mxE W B k c2 ms FM->Tab W->Calls prog fid (#[.agg #[.slice A n c,.int .i64 s],.slice B k c2]++caps) W (qY base A F (f ms net s) W)
theorem pN {K:World->Prop} {kd:Int} {g k:Nat} (hb:∀ W,K W->Blk W g 3 #[.int .i64 kd]) (h3:k<=3):tH K 123 #[.pointer (some ⟨g,0,none⟩)] k (fun ms=>dI kd ms):=by
 refine⟨fun _ _=>by kernel_rfl,fun W net s ms base n c c2 A B css F FM hW hs hmv hk hbw hn hox hms _=>?_⟩
 cases hl:aL kd ms
 ·exact nE hl hs.2 W hbw hn hk hox hms hmv h3 (hb W hW)
 ·by_cases h4:net.length<4
  ·exact oT hl h4 hs.2 W hbw hn hk hox hms hmv h3 (hb W hW)
  ·exact mC hl (by omega) hs.2 W hbw hn hk hox hms hmv h3 (hb W hW)
theorem xC (K:World->Prop):tH K 78 #[] 1 (fun ms=>ic (ms.getD 0 Mx.z)):=by
 refine⟨fun _ _=>by kernel_rfl,fun W net s ms base n c c2 A B css F FM hW hs hmv hk hbw hn hox hms ht=>?_⟩
 obtain⟨m,rfl⟩:=List.length_eq_one_iff.1 hk;have hm:=hmv m (List.mem_cons_self ..)
 cases hf:(bE (bh net) (some (m.r,m.c))).isSome
 ·exact mF hs.1 hm hs.2 hf W hbw hn hox hms
 ·exact nG hs.1 hm hs.2 hf W ht hbw hn hox hms
theorem uF (K:World->Prop):tH K 79 #[] 1 (fun ms=>eu (ms.getD 0 Mx.z)):=by
 refine⟨fun _ _=>by kernel_rfl,fun W net s ms base n c c2 A B css F FM hW hs hmv hk hbw hn hox hms ht=>?_⟩
 obtain⟨m,rfl⟩:=List.length_eq_one_iff.1 hk;have hm:=hmv m (List.mem_cons_self ..)
 cases hf:(bE (bh net) (some (m.r,m.c))).isSome
 ·exact sY hs.1 hm hf W hbw hn hox hms
 ·exact uP hs.1 hm hf W ht hbw hn hox hms
theorem vJ {n:List UInt8} (h:ei n=none) (g1 g2 g3:Nat) (z:DataW Value):Maps.has (qZ g1 g2 g3) (.string n)=false/\(qZ g1 g2 g3).atKey (.string n) z=z:=by
 unfold ei at h
 split at h
 ·cases h
 split at h
 ·cases h
 split at h
 ·cases h
 split at h
 ·cases h
 split at h
 ·cases h
 rename_i h1 h2 h3 h4 h5
 have e1:(([100,101,110,115,101]:List UInt8) == n)=false:=by simpa using Ne.symm h1
 have e2:(([114,97,109,112]:List UInt8) == n)=false:=by simpa using Ne.symm h2
 have e3:(([109,105,120]:List UInt8) == n)=false:=by simpa using Ne.symm h3
 have e4:(([114,117,110]:List UInt8) == n)=false:=by simpa using Ne.symm h4
 have e5:(([110,101,101,100,115]:List UInt8) == n)=false:=by simpa using Ne.symm h5
 constructor
 ·simp only[Maps.has,qZ,List.any,Lit.sameKey,e1,e2,e3,e4,e5,Bool.or_self,Bool.or_false]
 ·simp only[DataW.atKey,qZ,List.find?,Lit.sameKey,e1,e2,e3,e4,e5]
theorem vK {n:List UInt8} {k:Nat} {f:List Mx->List SL->Int->Option Res} (h:ei n=some (k,f)) {K:World->Prop} {g1 g2 g3:Nat} (b1:∀ W,K W->Blk W g1 3 #[.int .i64 1]) (b2:∀ W,K W->Blk W g2 3 #[.int .i64 2]) (b3:∀ W,K W->Blk W g3 3 #[.int .i64 3]) (z:DataW Value) :
  Maps.has (qZ g1 g2 g3) (.string n)=true/\∃ fid caps,(qZ g1 g2 g3).atKey (.string n) z= .held (.agg #[.int .i64 (k:Int),.func (.func fid) #[] caps])/\tH K fid caps k f/\k<=3:=by
 unfold ei at h
 split at h
 ·rename_i e;subst e;injection h with h;injection h with h1 h2;subst h1;subst h2
  exact⟨rfl,_,_,rfl,pN b1 (by omega),by omega⟩
 split at h
 ·rename_i e;subst e;injection h with h;injection h with h1 h2;subst h1;subst h2
  exact⟨rfl,_,_,rfl,pN b2 (by omega),by omega⟩
 split at h
 ·rename_i e;subst e;injection h with h;injection h with h1 h2;subst h1;subst h2
  exact⟨rfl,_,_,rfl,pN b3 (by omega),by omega⟩
 split at h
 ·rename_i e;subst e;injection h with h;injection h with h1 h2;subst h1;subst h2
  exact⟨rfl,_,_,rfl,xC K,by omega⟩
 split at h
 ·rename_i e;subst e;injection h with h;injection h with h1 h2;subst h1;subst h2
  exact⟨rfl,_,_,rfl,uF K,by omega⟩
 ·cases h
end
end Go.Proofs.YtjciicheoghcdaaGreatDoor
