/- Part of the proof that the law FnServiceLine of the given program returns true for every input. -/
import Derived.BigQuiet
import Derived.Deep.QuietTactic
import Derived.Test.YtjciicheoghcdaaGreatDoorXB
import Derived.Test.YtjciicheoghcdaaGreatDoorXC
import Derived.Test.YtjciicheoghcdaaGreatDoorXG
import Derived.Test.YtjciicheoghcdaaGreatDoorXK
import Derived.Test.YtjciicheoghcdaaGreatDoorXL
import Derived.Test.YtjciicheoghcdaaGreatDoorXN
import Derived.Test.YtjciicheoghcdaaGreatDoorXa
import Derived.Test.YtjciicheoghcdaaGreatDoorXl
import Derived.Test.YtjciicheoghcdaaGreatDoorXo
import Derived.Test.YtjciicheoghcdaaGreatDoorXw
namespace Go.Proofs.YtjciicheoghcdaaGreatDoor
open Go.RowKit
set_option linter.unusedSimpArgs false
set_option linter.unusedVariables false
set_option maxRecDepth 20000
set_option maxHeartbeats 16000000
section
attribute [local go_sem] af ah ae
def OwS (net:List SL) (s:Int) (w:World) (e:Ending) (w':World):Prop:=∃ A c F,e= .returned (.agg #[.slice A net.length c,.int .i64 s])/\RI (kE smE) w' A net.length c net F/\Fr w' w.heap.size F/\Below w.heap.size w w'
theorem iT {net:List SL} {s:Int} (hs:svS (net,s)) {A:Option Addr} {cap:Nat} {F:List Nat} (w:World) (hx:RI (kE smE) w A net.length cap net F):Calls Tryz.prog 38 #[.agg #[.slice A net.length cap,.int .i64 s]] w (OwS net s w):=by
 have HX:=Lib.hid hx;have HL:=Lib.hid hs.1;have HS:=Lib.hid hs.2;clear hx hs;refine zE ?_;intro u1 H;refine zI (bW A net.length cap net F u1 (HX.out.below H.O) HL.out HS.out) ?_;clear H;intro w2 AO cO FO u2 H;refine zS_ ?_;clear H;intro u3 H
 exact ⟨AO,cO,FO,rfl,(H.f 0).1,(H.f 0).2,H.O⟩
theorem AdR.all {base:Nat} {A:Option Addr} {c:Nat} {css:List (List Value)} {F:List Nat} {net:List SL} {s:Int} {res:Option Res} {w:World} {e:Ending} {w':World} (h:AdR base A c css F net s res w e w'):∃ A' c' css' F',e= .returned (.tuple #[.agg #[.slice A' (res.getD ((net,s),tNo)).1.1.length c',.int .i64 (res.getD ((net,s),tNo)).1.2],.string (bs (res.getD ((net,s),tNo)).2)])/\OX (kE smE) w' base 99 A' (res.getD ((net,s),tNo)).1.1.length c' css' (res.getD ((net,s),tNo)).1.1 F'/\UpL (fun i=>blk A=some i\/i∈F) w w':=by
 obtain ⟨h1,h2⟩:=h
 cases res with
 | none=>exact ⟨A,c,css,F,h1.1,h1.2,h2⟩
 | some r =>
  obtain ⟨A',c',css',F',e,h⟩:=h1
  exact ⟨A',c',css',F',e,h,h2⟩
theorem bq (l m:List UInt8):((bs l).toList == m)=(l == m):=by rw [ByteArray.toList_eq];simp [bs]
def Wds (nm:List UInt8) (a b c d:Bool):Prop:=((bs nm).toList == [100,101,110,115,101])=a/\((bs nm).toList == [109,105,120])=b/\((bs nm).toList == [114,117,110])=c/\((bs nm).toList == [110,101,101,100,115])=d
theorem vr {nm:List UInt8} (h:nm=[100,101,110,115,101]):Wds nm true false false false:=by subst h;exact ⟨(bq _ _).trans (by decide),(bq _ _).trans (by decide),(bq _ _).trans (by decide),(bq _ _).trans (by decide)⟩
theorem yD {nm:List UInt8} (h:nm=[109,105,120]):Wds nm false true false false:=by subst h;exact ⟨(bq _ _).trans (by decide),(bq _ _).trans (by decide),(bq _ _).trans (by decide),(bq _ _).trans (by decide)⟩
theorem yF {nm:List UInt8} (h:nm=[114,117,110]):Wds nm false false true false:=by subst h;exact ⟨(bq _ _).trans (by decide),(bq _ _).trans (by decide),(bq _ _).trans (by decide),(bq _ _).trans (by decide)⟩
theorem vu {nm:List UInt8} (h:nm=[110,101,101,100,115]):Wds nm false false false true:=by subst h;exact ⟨(bq _ _).trans (by decide),(bq _ _).trans (by decide),(bq _ _).trans (by decide),(bq _ _).trans (by decide)⟩
theorem Bj {nm:List UInt8} (h1:nm≠[100,101,110,115,101]) (h2:nm≠[109,105,120]) (h3:nm≠[114,117,110]) (h4:nm≠[110,101,101,100,115]):Wds nm false false false false:=⟨(bq _ _).trans (by simpa using h1),(bq _ _).trans (by simpa using h2),(bq _ _).trans (by simpa using h3),(bq _ _).trans (by simpa using h4)⟩
theorem words (nm:List UInt8):nm=[100,101,110,115,101]\/nm=[109,105,120]\/nm=[114,117,110]\/nm=[110,101,101,100,115]\/(nm≠[100,101,110,115,101]/\nm≠[109,105,120]/\nm≠[114,117,110]/\nm≠[110,101,101,100,115]):=by
 by_cases h1:nm=[100,101,110,115,101]
 ·exact .inl h1
 ·by_cases h2:nm=[109,105,120]
  ·exact .inr (.inl h2)
  ·by_cases h3:nm=[114,117,110]
   ·exact .inr (.inr (.inl h3))
   ·by_cases h4:nm=[110,101,101,100,115]
    ·exact .inr (.inr (.inr (.inl h4)))
    ·exact .inr (.inr (.inr (.inr ⟨h1,h2,h3,h4⟩)))
theorem mq {l:List UInt8} (h:l≠[]):(bs l).toList.isEmpty=false:=by
 rw [ByteArray.toList_eq]
 cases l with
 | nil=>exact absurd rfl h
 | cons=>rfl
theorem xG {l:List UInt8} (h:(Lib.cut l [32]).2.2=false):(Lib.cut l [32]).1=l:=by
 unfold Lib.cut at h ⊢
 by_cases g:0<=Lib.index l [32]
 ·simp [g] at h
 ·simp [g]
def Gd (ps:List (List UInt8)) (k:Nat) (gd:Bool) (ms:List Mx):Prop:=if gd=true then RdA (ps.take k) ms else ∃ i p,i<k/\ps[i]?=some p/\∀ m,mvB m=true->mt m≠p
theorem Gd.next {ps:List (List UInt8)} {k:Nat} {gd ok:Bool} {ms:List Mx} {p:List UInt8} {m:Mx} (h:Gd ps k gd ms) (hp:ps[k]?=some p) (hm:RMp p m ok):Gd ps (k+1) (gd && ok) (ms++[m]):=by
 unfold Gd at h ⊢
 cases gd
 ·obtain ⟨i,yq,hi,hq,hn⟩:=h
  exact ⟨i,yq,by omega,hq,hn⟩
 ·rcases hm with ⟨rfl,h1,h2⟩ | ⟨rfl,_,h1⟩
  ·exact RdA.snoc h hp h1 h2
  ·exact ⟨k,p,by omega,hp,h1⟩
theorem Gd.yes {ps:List (List UInt8)} {ms:List Mx} (h:Gd ps ps.length true ms):RdA ps ms:=by
 have h:RdA (ps.take ps.length) ms:=h
 rwa [List.take_length] at h
theorem Gd.no {ps:List (List UInt8)} {k:Nat} {ms:List Mx} (h:Gd ps k false ms) (ms':List Mx) (h':RdA ps ms'):False:=by
 obtain ⟨i,p,hi,hp,hn⟩:=h;obtain ⟨m,hm,_⟩:=aH (xs:=ms') (j:=i) (by rw [<- h'.1];exact (List.getElem?_eq_some_iff.1 hp).1)
 obtain ⟨h1,h2⟩:=h'.2 i p m hp hm
 exact hn m h1 h2
theorem RdA.ms {ps:List (List UInt8)} {ms:List Mx} (h:RdA ps ms):∀ m,m∈ms->mvB m=true:=by
 intro m hm;obtain ⟨i,hi,e⟩:=List.mem_iff_getElem.1 hm;obtain ⟨p,hp,_⟩:=aH (xs:=ps) (j:=i) (by rw [h.1];exact hi)
 exact (h.2 i p m hp (by rw [List.getElem?_eq_getElem hi,e])).1
section
variable {net:List SL} {s:Int} {l nm tx:List UInt8} {k:Nat} {f:List Mx->List SL->Int->Option Res} {ms:List Mx}
theorem wB (h1:(Lib.cut l [32]).1=nm) (hc:ei nm=none):LnR net s l ((net,s),fa):=by unfold LnR;rw [h1,hc]
theorem mR (h1:(Lib.cut l [32]).1=nm) (h2:(Lib.cut l [32]).2.1=tx) (hc:ei nm=some (k,f)) (hk:0<k) (ht:tx=[]):LnR net s l ((net,s),fa):=by unfold LnR;rw [h1,hc];exact .inl ⟨.inr ⟨hk,by rw [h2,ht]⟩,rfl⟩
theorem nP (h1:(Lib.cut l [32]).1=nm) (h2:(Lib.cut l [32]).2.1=tx) (hc:ei nm=some (k,f)) (hk:0<k) (ht:tx≠[]) (h:∀ ms,RdM k tx ms->f ms net s=none):LnR net s l ((net,s),tNo):=by
 unfold LnR;rw [h1,hc];refine .inr ⟨?_,?_⟩
 ·rintro (⟨e,_⟩ | ⟨_,e⟩)
  ·omega
  ·exact ht (by rw [<- h2];exact e)
 ·by_cases e:∃ ms,RdM k tx ms
  ·obtain ⟨ms,e⟩:=e
   exact .inl ⟨ms,by rw [h2];exact e,by rw [h ms e];rfl⟩
  ·exact .inr ⟨fun ms k=>e ⟨ms,by rw [<- h2];exact k⟩,rfl⟩
theorem lH (h1:(Lib.cut l [32]).1=nm) (h2:(Lib.cut l [32]).2.1=tx) (hc:ei nm=some (k,f)) (hk:0<k) (ht:tx≠[]) (hr:RdA (dm tx) ms) (hl:ms.length=k\/f ms net s=none):LnR net s l ((f ms net s).getD ((net,s),tNo)):=by
 by_cases e:ms.length=k
 ·unfold LnR;rw [h1,hc];refine .inr ⟨?_,.inl ⟨ms,by rw [h2];exact ⟨e,fun _=>hr⟩,rfl⟩⟩
  rintro (⟨e,_⟩ | ⟨_,e⟩)
  ·omega
  ·exact ht (by rw [<- h2];exact e)
 ·rw [hl.resolve_left e]
  exact nP h1 h2 hc hk ht fun ms' h=>absurd (h.1) (by rw [(h.2 hk).one hr];exact e)
end
theorem CE {ms:List Mx} (h:aL 1 ms=true):ms.length=2:=by
 rcases eM (l:=((1:Int),ms)) h with ⟨_,a,b,e,_⟩ | ⟨e,_⟩ | ⟨e,_⟩
 ·rw [show ms=[a,b] from e];rfl
 ·cases e
 ·cases e
theorem CF {ms:List Mx} (h:aL 3 ms=true):ms.length=3:=by
 rcases eM (l:=((3:Int),ms)) h with ⟨e,_⟩ | ⟨e,_⟩ | ⟨_,a,b,c,e,_⟩
 ·cases e
 ·cases e
 ·rw [show ms=[a,b,c] from e];rfl
theorem uo {kd:Int} {ms:List Mx} {net:List SL} {s:Int} (h:aL kd ms≠true):dI kd ms net s=none:=by unfold dI;rw [if_neg (fun e=>h e.1)]
theorem Bf {sep:List UInt8} (hs:3<=sep.length):∀ (n:Nat) (t:List UInt8),t.length<=n->3*(Lib.split t sep).length<=t.length+3:=by
 intro n
 induction n with
 | zero =>
  intro t ht;have:t=[]:=List.eq_nil_of_length_eq_zero (by omega)
  subst this;rcases Lib.index_spec ([]:List UInt8) sep with ⟨h,_⟩ | ⟨i,_,_,h,_⟩
  ·rw [ie h];simp
  ·have h2:=congrArg List.length (qp h)
   simp at h2
   omega
 | succ n ih =>
  intro t ht;rcases Lib.index_spec t sep with ⟨h,_⟩ | ⟨i,h1,_,h,_⟩
  ·rw [ie h];simp
  ·have h2:=congrArg List.length (qp h);simp only [List.length_append,List.length_take,List.length_drop] at h2;rw [lQ (by intro e;rw [e] at hs;simp at hs) h1]
   have:=ih (t.drop (i+sep.length)) (by rw [List.length_drop];omega)
   rw [List.length_cons,List.length_drop] at *
   omega
theorem wP {l:List UInt8} (h:l.length<=1048576):(dm l).length<=400000:=by
 have:=Bf (sep:=eP) (by decide) l.length l (Nat.le_refl _)
 unfold dm
 omega
theorem u_ {l p:List UInt8} (h:p∈dm l):p.length<=l.length:=bX (by decide) h
def LnN (w:World) (e:Ending) (w':World):Prop:=e= .returned (.tuple #[.agg #[.slice none 0 0,.int .i64 0],.string (bs [])])/\Below w.heap.size w w'
theorem kN {net:List SL} {s:Int} (hv:svB (net,s)=false) (hss:svS (net,s)) {l:List UInt8} {A:Option Addr} {cap:Nat} {F:List Nat} (w:World) (hx:RI (kE smE) w A net.length cap net F) :
  Calls Tryz.prog 10 #[.agg #[.slice A net.length cap,.int .i64 s],.string (bs l)] w (LnN w):=by
 have HSV:=Lib.hid hv;have HSS:=Lib.hid hss;have HX:=Lib.hid hx;clear hv hss hx;refine zE ?_;intro u1 H;refine zI (iT HSS.out u1 (HX.out.below H.O)) ?_;clear H;intro w2 AO cO FO u2 H;refine zG (iS u2 [.slice AO net.length cO,.int .i64 s] (net,s) FO ⟨AO,cO,rfl,(H.f 0).1⟩ HSS.out) ?_;rintro e w3 ⟨rfl,hb⟩;replace H:=H.b hb;rw [HSV.out];clear hb;refine zS_ ?_;clear H;intro u4 H
 exact ⟨rfl,H.O⟩
theorem kf {net:List SL} {s:Int} (hv:svB (net,s)=false) (hss:svS (net,s)) {l:List UInt8} {A:Option Addr} {cap:Nat} {F:List Nat} (w:World) (hx:RI (kE smE) w A net.length cap net F) :
  Calls Tryz.prog 9 #[.agg #[.slice A net.length cap,.int .i64 s],.string (bs l)] w (LnN w):=by
 have HSV:=Lib.hid hv;have HSS:=Lib.hid hss;have HX:=Lib.hid hx;clear hv hss hx;refine zE ?_;intro u1 H;refine zG (iM u1 [.slice A net.length cap,.int .i64 s] (net,s) F ⟨A,cap,rfl,HX.out.below H.O⟩ HSS.out) ?_;rintro e w2 ⟨rfl,hb⟩;replace H:=H.b hb;rw [HSV.out];clear hb;refine zS_ ?_;clear H;intro u3 H
 exact ⟨rfl,H.O⟩
theorem mL {net:List SL} {s:Int} (h:jO net s) {l:List UInt8} (hl:l.length<=1048576) {A:Option Addr} {cap:Nat} {F:List Nat} (w:World) (hx:RI (kE smE) w A net.length cap net F) :
  Calls Tryz.prog 10 #[.agg #[.slice A net.length cap,.int .i64 s],.string (bs l)] w (LnP net s l w):=by
 obtain ⟨nm,hc1⟩:∃ x,x=(Lib.cut l [32]).1:=⟨_,rfl⟩;obtain ⟨tx,hc2⟩:∃ x,x=(Lib.cut l [32]).2.1:=⟨_,rfl⟩;obtain ⟨np,hnp⟩:∃ n,n=(dm tx).length:=⟨_,rfl⟩;have htl:tx.length<=1048576:=by rw [hc2];exact Nat.le_trans (tR l) hl
 have hn4:np<=400000:=by rw [hnp];exact wP htl
 have HC1:Hid ((Lib.cut l [32]).1=nm):=hc1.symm;have HC2:Hid ((Lib.cut l [32]).2.1=tx):=hc2.symm;have HSV:Hid (svB (net,s)=true):=by unfold Hid svB;rw [h.1,h.2];rfl
 have HSS:Hid (svS (net,s)):=mg h.1;have HNS:=Lib.hid (mg h.1);have HOK:=Lib.hid h.1;have HSD:=Lib.hid h.2;have H4:=Lib.hid (du h.1).1;have HNP:=Lib.hid hnp;have HTL:=Lib.hid htl;have HN4:=Lib.hid hn4;have HL:=Lib.hid hl;have HX:=Lib.hid hx;clear hc1 hc2 h hl hx hnp htl hn4;refine zE ?_;intro u1 H;refine zI (iT HSS.out u1 (HX.out.below H.O)) ?_;clear H;intro w2 AO cO FO u2 H;refine zG (iS u2 [.slice AO net.length cO,.int .i64 s] (net,s) FO ⟨AO,cO,rfl,(H.f 0).1⟩ HSS.out) ?_;rintro e w3 ⟨rfl,hb⟩;replace H:=H.b hb;rw [HSV.out];clear hb;refine zN ?_;clear H;intro u4 H;refine zG (ou HOK.out u4 (H.f 0).1) ?_;rintro e w5 ⟨AN,cN,cssN,FN,rfl,hox,hb⟩;replace H:=H.ox hb hox;clear hox hb;replace H:=H.d 1;refine zN ?_;clear H;intro u6 H;refine zG (qG l HL.out u6) ?_;rintro e w7 ⟨rfl,hb⟩;replace H:=H.b hb;rw [HC1.out,HC2.out];clear hb;refine zC ?_;intro C;intros
 go_wp2_with fail
 refine nqC (Hq.bsX (T:=37) H mxE rfl) ?_;clear H C;intro u8 H;refine zG (qF tx HTL.out u8) ?_;rintro e w9 ⟨AP,cP,cssP,FP,rfl,hox,hb⟩;replace H:=H.ox hb hox;clear hox hb;rw [<- HNP.out] at H ⊢;refine zN ?_;clear H;intro u10 H;replace H:=((((((H.r 5).r 5).r 4).r 5).r 4).r 5);obtain ⟨gY,hgY⟩:∃ g,g=w5.heap.size:=⟨_,rfl⟩;rw [<- hgY] at H ⊢;clear hgY;intros
 go_loopw [12,9,10] (fun vk vl vg wr=>∃ (k cL:Nat) (AL:Option Addr) (cssL:List (List Value)) (ms:List Mx) (FL:List Nat) (gd:Bool),k<=np/\vk= .int .i64 k/\vl= .slice AL k cL/\vg= .bool gd/\Hid (Gd (dm tx) k gd ms)/\Hid (Hq w [qX mxE w.heap.size 37 AL k cL cssL ms FL,qX txE w.heap.size 9 AP np cP cssP (dm tx) FP,qX (kE smE) w.heap.size 99 AN net.length cN cssN net FN,qB gY 25 [.slice AN net.length cN,.int .i64 s],qB (w.heap.size+1) 25 [.slice none 0 0,.int .i64 0],qB w.heap.size 25 [.slice AO net.length cO,.int .i64 s]] wr)) (fun vk _ _ _=>np-(intOf vk).toNat)
 case atStart=>exact ⟨0,0,_,[],[],[],true,Nat.zero_le _,rfl,rfl,rfl,RdA.nil,H⟩
 case round =>
 clear H;obtain ⟨k,cL,AL,cssL,ms,FL,gd,hk,rfl,rfl,rfl,HG,H⟩:=hrel;have H:=H.out;have hk4:k<=400000:=Nat.le_trans hk HN4.out
 by_cases hlt:k<np
 ·obtain ⟨p,hp,hmem⟩:=aH (xs:=dm tx) (j:=k) (by rw [<- HNP.out];exact hlt)
  have HP:=Lib.hid hp;have HPL:Hid (p.length<=1048576):=Nat.le_trans (u_ hmem) HTL.out;obtain ⟨F9,hri,-,-⟩:=OX.rf (H.x 1);obtain ⟨b,off,cs,F8,rfl,hb9,hc9,_,hcs⟩:=hri.cells hp 1 rfl;obtain ⟨rfl,-⟩:=hcs;have hc0:wr.cell? ⟨b,off+k,none⟩=some (.string (bs p)):=by have:=hc9 0 (by omega);simpa using this
  have zb:=hb9;have k0:(0:Int)<=(k:Int):=by omega
  have k1:(k:Int)<(np:Int):=by omega
  clear hp hmem hri hc9 hb9;refine zN ?_;clear H;intro u21 H;refine zG (qy p HPL.out u21) ?_;rintro e w22 ⟨m,ok,Am,cm,rfl,hos,hrm,hb⟩;replace H:=H.os hb hos;clear hos hb;have HGN:=Lib.hid (HG.out.next HP.out hrm);clear hrm hc0 zb
  cases gd <;> cases ok
  all_goals
   refine zC ?_;intro C;intros
   go_wp2_with (at_builtin;refine zM ?_)
   clear H C;intro u23 H;have hx:mxE.P u23 [.int .i64 m.r,.int .i64 m.c,.slice Am m.v.length cm] m (fpI Am m.v.length):=⟨Am,cm,rfl,MF.aB (H.o 2)⟩;have hf:=ek (H.o 2);replace H:=((H.r 2).r 3);refine zAx (an4 apM hx hf (fun i hi=>(bz hi).2)) ?_;clear H hx hf;intro g1 k1 w21 H
   replace H:=((H.d 1).d 1);refine zC ?_;intro C;intros;go_wp2
   go_roundw
   case rel=>exact ⟨k+1,k1,some ⟨g1,0,none⟩,_,_,_,_,by omega,by go_num,rfl,rfl,HGN,H⟩
   case measure=>simp [intOf];omega
 ·obtain rfl:k=np:=by omega
  obtain rfl:ms.length=k:=(H.x 0).2.1;refine zN ?_;clear H;intro u41 H;obtain ⟨F9,hri,-⟩:=OX.rf (H.x 2);refine zG (je _ _ _ net _ u41 hri HNS.out) ?_;rintro e w42 ⟨AJ,nj,cj,FJ,rfl,hrj,hfr,hb⟩;replace H:=H.rf hb hrj hfr;rw [HOK.out];obtain rfl:=hrj.len;clear hrj hfr hb hri;replace H:=H.d 2
  by_cases hr:l=[114,97,109,112]
  ·have c0:((bs l).toList == [114,97,109,112])=true:=(bq _ _).trans (by rw [hr];decide)
   have HLN:Hid (LnR net s l ((dI 2 [] net s).getD ((net,s),tNo))):=by unfold Hid LnR;rw [hr];exact .inr ⟨by rintro (⟨_,h⟩ | ⟨h,_⟩);cases h;omega,.inl ⟨[],⟨rfl,fun h=>absurd h (by omega)⟩,rfl⟩⟩
   clear hr;refine zN ?_;clear H;intro u43 H;have hri:RI mxE u43 none 0 0 [] []:=RI.nil _ _ (by unfold maxLen;omega)
   have hmS:∀ m,m∈([]:List Mx)->mS m:=fun m h=>by cases h
   have hml:([]:List Mx).length<=1048576:=by simp
   refine zG (jR (kd:=2) (ms:=[]) H4.out HSD.out u43 H.m (H.x 2) hri hmS hml) ?_;rintro e w44 hr;obtain ⟨A5,c5,css5,F5,rfl,X5,hu⟩:=AdR.all hr;clear hr hri hmS hml;replace H:=Hq.ul (H.r 2) hu (fun i hi=>hi)
   replace H:=H.d 0;replace H:=H.d 0;replace H:=Hq.adV H X5;clear X5 hu;obtain ⟨r,hres⟩:∃ r,r=(dI 2 [] net s).getD ((net,s),tNo):=⟨_,rfl⟩;rw [<- hres] at H HLN ⊢;clear hres;refine zS_ ?_;clear H;intro u45 H
   exact ⟨r,A5,c5,css5,F5,HLN.out,rfl,(H.x 0),H.O⟩
  ·have c0:((bs l).toList == [114,97,109,112])=false:=(bq _ _).trans (by simpa using hr)
   have HRP:=Lib.hid hr;clear hr;rcases words nm with hw | hw | hw | hw | hw
   ·obtain ⟨c1,c2,c3,c4⟩:=vr hw;have hcm:ei nm=some (2,fun ms=>dI 1 ms):=by rw [hw];rfl
    have HCM:=Lib.hid hcm;clear hcm hw
    by_cases ht:tx=[]
    ·have te:(bs tx).toList.isEmpty=true:=by rw [ht,ByteArray.toList_eq];rfl
     have HLN:=Lib.hid (mR (net:=net) (s:=s) HC1.out HC2.out HCM.out (by omega) ht)
     clear ht;refine zS_ ?_;clear H;intro u43 H
     exact ⟨((net,s),fa),AN,cN,cssN,FN,HLN.out,rfl,(H.x 2),H.O⟩
    ·have HTX:=Lib.hid ht;clear ht
     cases gd with
     | false =>
      have te:(bs tx).toList.isEmpty=false:=mq HTX.out;have HLN:=Lib.hid (nP (net:=net) (s:=s) HC1.out HC2.out HCM.out (by omega) HTX.out fun ms h=>absurd (h.2 (by omega)) (Gd.no HG.out _))
      refine zS_ ?_;clear H;intro u43 H
      exact ⟨((net,s),tNo),AN,cN,cssN,FN,HLN.out,rfl,(H.x 2),H.O⟩
     | true =>
      have HRD:=Lib.hid (Gd.yes (ms:=ms) (by have:=HG.out;rwa [HNP.out] at this))
      have te:(bs tx).toList.isEmpty=false:=mq HTX.out;have HLN:=Lib.hid (lH (net:=net) (s:=s) HC1.out HC2.out HCM.out (by omega) HTX.out HRD.out (Classical.or_iff_not_imp_left.2 fun h=>uo fun e=>h (CE e)))
      refine zN ?_;clear H;intro u43 H;obtain ⟨FM,hri,-⟩:=OX.rf (H.x 1);have hmS:∀ m,m∈ms->mS m:=fun m hm=>by have:=dy (HRD.out.ms m hm);unfold mS;omega
      have hml:ms.length<=1048576:=by have:=HN4.out;omega
      refine zG (jR (kd:=1) (ms:=ms) H4.out HSD.out u43 H.m (H.x 2) hri hmS hml) ?_;rintro e w44 hr;obtain ⟨A5,c5,css5,F5,rfl,X5,hu⟩:=AdR.all hr;clear hr hri hmS hml;replace H:=Hq.ul (H.r 2) hu (fun i hi=>hi)
      replace H:=H.d 0;replace H:=H.d 0;replace H:=Hq.adV H X5;clear X5 hu;obtain ⟨r,hres⟩:∃ r,r=(dI 1 ms net s).getD ((net,s),tNo):=⟨_,rfl⟩;rw [<- hres] at H HLN ⊢;clear hres;refine zS_ ?_;clear H;intro u45 H
      exact ⟨r,A5,c5,css5,F5,HLN.out,rfl,(H.x 0),H.O⟩
   ·obtain ⟨c1,c2,c3,c4⟩:=yD hw;have hcm:ei nm=some (3,fun ms=>dI 3 ms):=by rw [hw];rfl
    have HCM:=Lib.hid hcm;clear hcm hw
    by_cases ht:tx=[]
    ·have te:(bs tx).toList.isEmpty=true:=by rw [ht,ByteArray.toList_eq];rfl
     have HLN:=Lib.hid (mR (net:=net) (s:=s) HC1.out HC2.out HCM.out (by omega) ht)
     clear ht;refine zS_ ?_;clear H;intro u43 H
     exact ⟨((net,s),fa),AN,cN,cssN,FN,HLN.out,rfl,(H.x 2),H.O⟩
    ·have HTX:=Lib.hid ht;clear ht
     cases gd with
     | false =>
      have te:(bs tx).toList.isEmpty=false:=mq HTX.out;have HLN:=Lib.hid (nP (net:=net) (s:=s) HC1.out HC2.out HCM.out (by omega) HTX.out fun ms h=>absurd (h.2 (by omega)) (Gd.no HG.out _))
      refine zS_ ?_;clear H;intro u43 H
      exact ⟨((net,s),tNo),AN,cN,cssN,FN,HLN.out,rfl,(H.x 2),H.O⟩
     | true =>
      have HRD:=Lib.hid (Gd.yes (ms:=ms) (by have:=HG.out;rwa [HNP.out] at this))
      have te:(bs tx).toList.isEmpty=false:=mq HTX.out;have HLN:=Lib.hid (lH (net:=net) (s:=s) HC1.out HC2.out HCM.out (by omega) HTX.out HRD.out (Classical.or_iff_not_imp_left.2 fun h=>uo fun e=>h (CF e)))
      refine zN ?_;clear H;intro u43 H;obtain ⟨FM,hri,-⟩:=OX.rf (H.x 1);have hmS:∀ m,m∈ms->mS m:=fun m hm=>by have:=dy (HRD.out.ms m hm);unfold mS;omega
      have hml:ms.length<=1048576:=by have:=HN4.out;omega
      refine zG (jR (kd:=3) (ms:=ms) H4.out HSD.out u43 H.m (H.x 2) hri hmS hml) ?_;rintro e w44 hr;obtain ⟨A5,c5,css5,F5,rfl,X5,hu⟩:=AdR.all hr;clear hr hri hmS hml;replace H:=Hq.ul (H.r 2) hu (fun i hi=>hi)
      replace H:=H.d 0;replace H:=H.d 0;replace H:=Hq.adV H X5;clear X5 hu;obtain ⟨r,hres⟩:∃ r,r=(dI 3 ms net s).getD ((net,s),tNo):=⟨_,rfl⟩;rw [<- hres] at H HLN ⊢;clear hres;refine zS_ ?_;clear H;intro u45 H
      exact ⟨r,A5,c5,css5,F5,HLN.out,rfl,(H.x 0),H.O⟩
   ·obtain ⟨c1,c2,c3,c4⟩:=yF hw;have hcm:ei nm=some (1,fun ms=>ic (ms.getD 0 Mx.z)):=by rw [hw];rfl
    have HCM:=Lib.hid hcm;clear hcm hw
    by_cases ht:tx=[]
    ·have te:(bs tx).toList.isEmpty=true:=by rw [ht,ByteArray.toList_eq];rfl
     have HLN:=Lib.hid (mR (net:=net) (s:=s) HC1.out HC2.out HCM.out (by omega) ht)
     clear ht;refine zS_ ?_;clear H;intro u43 H
     exact ⟨((net,s),fa),AN,cN,cssN,FN,HLN.out,rfl,(H.x 2),H.O⟩
    ·have HTX:=Lib.hid ht;clear ht
     cases gd with
     | false =>
      have te:(bs tx).toList.isEmpty=false:=mq HTX.out;have HLN:=Lib.hid (nP (net:=net) (s:=s) HC1.out HC2.out HCM.out (by omega) HTX.out fun ms h=>absurd (h.2 (by omega)) (Gd.no HG.out _))
      refine zS_ ?_;clear H;intro u43 H
      exact ⟨((net,s),tNo),AN,cN,cssN,FN,HLN.out,rfl,(H.x 2),H.O⟩
     | true =>
      have HRD:=Lib.hid (Gd.yes (ms:=ms) (by have:=HG.out;rwa [HNP.out] at this))
      by_cases h1:ms.length=1
      ·obtain ⟨m,rfl⟩:=List.length_eq_one_iff.1 h1;have hmv:mvB m=true:=HRD.out.ms m (by simp)
       have HMS:Hid (mS m):=by have:=dy hmv;unfold Hid mS;omega
       obtain ⟨hz1,hz2,hz3,hz4⟩:=jg hmv HSD.out;obtain ⟨z,hz⟩:∃ z,z=cH m s:=⟨_,rfl⟩;have HZ:=Lib.hid hz;rw [<- hz] at hz1 hz2 hz3 hz4;have HZ1:=Lib.hid hz1;have HZ4:=Lib.hid hz4
       by_cases hfit:(bE (bh net) (some (m.r,m.c))).isSome=true
       ·have te:(bs tx).toList.isEmpty=false:=mq HTX.out;have HFZ:Hid ((bE (bh net) (some (z.1.1.r,z.1.1.c))).isSome=true):=by show _=_;rw [hz2,hz3];simpa using hfit
        obtain ⟨hy1,hy2⟩:=tm HOK.out hmv HSD.out hfit;obtain ⟨y,hy⟩:∃ y,y=fD net (z.1,z.2):=⟨_,rfl⟩;have HLN:Hid (LnR net s l ((net,y.2),mt (aq y.1))):=by have h:=lH (net:=net) (s:=s) HC1.out HC2.out HCM.out (by omega) HTX.out HRD.out (.inl rfl);rw [show ic ([m].getD 0 Mx.z) net s=some ((net,y.2),mt (aq y.1)) from by show ic m net s=_;unfold ic;rw [if_pos hfit,<- hz,hy]] at h;exact h
        rw [<- hz,show z=(z.1,z.2) from rfl,<- hy] at hy1 hy2
        have HY:=Lib.hid hy;have HY1:=Lib.hid hy1;have HY0:Hid ((y.2 == 0)=false):=by have:=dH hy2;show _=_;simp;omega
        have HJL:Hid ((aq y.1).v.length<=1048576):=by have:=pq y.1;unfold mS at this;exact this
        clear hy hy1 hy2;clear hz hz1 hz2 hz3 hz4 hmv hfit;obtain ⟨cs2,g2,rfl,rfl,-,hp2,-⟩:=OX.one (H.x 1);obtain ⟨A3,c4,rfl,-⟩:=hp2;refine zN ?_;clear H;intro u43 H;have ez:=(OX.ft (H.x 1)).2.2.2;have E:=H.el;refine zXF (tgF [gY,g2] 9 17 (.cells #[.int .i64 0,.int .i64 0,.slice none 0 0,.int .i64 0,.int .i64 0,.slice none 0 0] 82)) ?_;clear H;intro S w44 hne H;refine zD (H.c 3) ?_;intro G;have r0:=H.row (show World.cell? _ ⟨g2,0,none⟩=some (.int .i64 m.r) from (OX.ft (H.x 1)).2.2.1 0 (by decide))
        have r1:=H.row (show World.cell? _ ⟨g2,1,none⟩=some (.int .i64 m.c) from (OX.ft (H.x 1)).2.2.1 1 (by decide))
        have r2:=H.row (show World.cell? _ ⟨g2,2,none⟩=some (.slice A3 m.v.length c4) from (OX.ft (H.x 1)).2.2.1 2 (by decide))
        intros;refine f_ (fun w45 (hb:Bw w44 w45)=>(show Calls Tryz.prog 45 #[.agg #[.int .i64 m.r,.int .i64 m.c,.slice A3 m.v.length c4],.int .i64 s] w45 (vB z.1 z.2 w45) from by rw [HZ.out];exact e_ w45 [.int .i64 m.r,.int .i64 m.c,.slice A3 m.v.length c4] m _ (OX.ft ((H.b hb).x 1)).1 HMS.out s)) ?_;clear H
        rintro w45 K hK H e w46 ⟨X,Y,cx,cy,rfl,f1,f2,-,hb⟩;replace H:=H.ss hb f1 f2;clear f1 f2;refine fK ?_;clear hK K hb;refine yG ?_;clear H;intro w47 g47 hg47 H;refine yS ?_;clear H;intro w48 H;refine yN ?_;clear H G;intro u49 H;obtain ⟨F9,hri,-⟩:=OX.rf (H.x 4);refine zG ((show Calls Tryz.prog 46 #[_,_,_] u49 (pM y.1 y.2 u49) from by rw [HY.out];exact DX HOK.out HNS.out HZ1.out HZ4.out HFZ.out u49 hri (H.rs 1))) ?_
        rintro e w50 ⟨PA,pa,PB,pb,C1,cm,ck,cv,rfl,h1,h2,h3,hb⟩;replace H:=H.so hb h1 h2 h3;clear h1 h2 h3 hb hri;have hy0:=HY0.out;refine zN ?_;clear H;intro u51 H;refine zX (tg [w50.heap.size,gY]) ?_;clear H;intro S w52 hne H;refine zD ((And.intro (H.c 0) (H.c 7))) ?_;intro G;refine yO (gi HY1.out w52 (qS.rs (Ow.P1 (H.p 1)))) ?_;clear H;intro w53 J cJ H;refine yB (kM (aq y.1).r (aq y.1).c (aq y.1).v J _ cJ w53 (H.o 0).si HJL.out) ?_;clear H;intro w54 H;refine yS ?_;clear H;intro w55 H;refine yN ?_;clear H G;intro u56 H;refine zS_ ?_;clear H;intro u57 H
        exact ⟨((net,y.2),mt (aq y.1)),AN,cN,cssN,FN,HLN.out,rfl,(H.x 7),H.O⟩
       ·have te:(bs tx).toList.isEmpty=false:=mq HTX.out;have HFZ:Hid ((bE (bh net) (some (z.1.1.r,z.1.1.c))).isSome=false):=by show _=_;rw [hz2,hz3];simpa using hfit
        have HLN:Hid (LnR net s l ((net,s),tNo)):=by have h:=lH (net:=net) (s:=s) HC1.out HC2.out HCM.out (by omega) HTX.out HRD.out (.inl rfl);rw [show ic ([m].getD 0 Mx.z) net s=none from by show ic m net s=_;unfold ic;rw [if_neg hfit]] at h;exact h
        clear hz hz1 hz2 hz3 hz4 hmv hfit;obtain ⟨cs2,g2,rfl,rfl,-,hp2,-⟩:=OX.one (H.x 1);obtain ⟨A3,c4,rfl,-⟩:=hp2;refine zN ?_;clear H;intro u43 H;have ez:=(OX.ft (H.x 1)).2.2.2;have E:=H.el;refine zXF (tgF [gY,g2] 9 17 (.cells #[.int .i64 0,.int .i64 0,.slice none 0 0,.int .i64 0,.int .i64 0,.slice none 0 0] 82)) ?_;clear H;intro S w44 hne H;refine zD (H.c 3) ?_;intro G;have r0:=H.row (show World.cell? _ ⟨g2,0,none⟩=some (.int .i64 m.r) from (OX.ft (H.x 1)).2.2.1 0 (by decide))
        have r1:=H.row (show World.cell? _ ⟨g2,1,none⟩=some (.int .i64 m.c) from (OX.ft (H.x 1)).2.2.1 1 (by decide))
        have r2:=H.row (show World.cell? _ ⟨g2,2,none⟩=some (.slice A3 m.v.length c4) from (OX.ft (H.x 1)).2.2.1 2 (by decide))
        intros;refine f_ (fun w45 (hb:Bw w44 w45)=>(show Calls Tryz.prog 45 #[.agg #[.int .i64 m.r,.int .i64 m.c,.slice A3 m.v.length c4],.int .i64 s] w45 (vB z.1 z.2 w45) from by rw [HZ.out];exact e_ w45 [.int .i64 m.r,.int .i64 m.c,.slice A3 m.v.length c4] m _ (OX.ft ((H.b hb).x 1)).1 HMS.out s)) ?_;clear H
        rintro w45 K hK H e w46 ⟨X,Y,cx,cy,rfl,f1,f2,-,hb⟩;replace H:=H.ss hb f1 f2;clear f1 f2;refine fK ?_;clear hK K hb;refine yG ?_;clear H;intro w47 g47 hg47 H;refine yS ?_;clear H;intro w48 H;refine yN ?_;clear H G;intro u49 H;obtain ⟨F9,hri,-⟩:=OX.rf (H.x 4);refine zG (oh HOK.out HNS.out HZ1.out HZ4.out HFZ.out u49 hri (H.rs 1)) ?_;rintro e w50 ⟨C9,k9,rfl,hb⟩;replace H:=H.b hb;clear hri hb;refine zS_ ?_;clear H;intro u51 H
        exact ⟨((net,s),tNo),AN,cN,cssN,FN,HLN.out,rfl,(H.x 5),H.O⟩
      ·have te:(bs tx).toList.isEmpty=false:=mq HTX.out;have hn1:¬ (ms.length:Int)=1:=by omega
       have HLN:=Lib.hid (nP (net:=net) (s:=s) HC1.out HC2.out HCM.out (by omega) HTX.out fun ms' h=>absurd h.1 (by rw [(h.2 (by omega)).one HRD.out];exact h1))
       refine zS_ ?_;clear H;intro u43 H
       exact ⟨((net,s),tNo),AN,cN,cssN,FN,HLN.out,rfl,(H.x 2),H.O⟩
   ·obtain ⟨c1,c2,c3,c4⟩:=vu hw;have hcm:ei nm=some (1,fun ms=>eu (ms.getD 0 Mx.z)):=by rw [hw];rfl
    have HCM:=Lib.hid hcm;clear hcm hw
    by_cases ht:tx=[]
    ·have te:(bs tx).toList.isEmpty=true:=by rw [ht,ByteArray.toList_eq];rfl
     have HLN:=Lib.hid (mR (net:=net) (s:=s) HC1.out HC2.out HCM.out (by omega) ht)
     clear ht;refine zS_ ?_;clear H;intro u43 H
     exact ⟨((net,s),fa),AN,cN,cssN,FN,HLN.out,rfl,(H.x 2),H.O⟩
    ·have HTX:=Lib.hid ht;clear ht
     cases gd with
     | false =>
      have te:(bs tx).toList.isEmpty=false:=mq HTX.out;have HLN:=Lib.hid (nP (net:=net) (s:=s) HC1.out HC2.out HCM.out (by omega) HTX.out fun ms h=>absurd (h.2 (by omega)) (Gd.no HG.out _))
      refine zS_ ?_;clear H;intro u43 H
      exact ⟨((net,s),tNo),AN,cN,cssN,FN,HLN.out,rfl,(H.x 2),H.O⟩
     | true =>
      have HRD:=Lib.hid (Gd.yes (ms:=ms) (by have:=HG.out;rwa [HNP.out] at this))
      by_cases h1:ms.length=1
      ·obtain ⟨m,rfl⟩:=List.length_eq_one_iff.1 h1;have hmv:mvB m=true:=HRD.out.ms m (by simp)
       have HR:=Lib.hid (aA hmv).1;have HCC:=Lib.hid (aA hmv).2;have HNV:=Lib.hid (eN HOK.out)
       by_cases hfit:(bE (bh net) (some (m.r,m.c))).isSome=true
       ·have te:(bs tx).toList.isEmpty=false:=mq HTX.out;obtain ⟨N,hN⟩:∃ N,N=(ndN (bh net) (Nd.z,some (m.r,m.c))).1:=⟨_,rfl⟩;have HLN:Hid (LnR net s l ((net,s),nt [N.a,N.b,N.c,N.d])):=by have h:=lH (net:=net) (s:=s) HC1.out HC2.out HCM.out (by omega) HTX.out HRD.out (.inl rfl);rw [show eu ([m].getD 0 Mx.z) net s=some ((net,s),nt [N.a,N.b,N.c,N.d]) from by show eu m net s=_;unfold eu;rw [if_pos hfit,hN]] at h;exact h
        have HND:=Lib.hid hN;have HFIT:=Lib.hid hfit;clear hN;clear hmv hfit;obtain ⟨cs2,g2,rfl,rfl,-,hp2,-⟩:=OX.one (H.x 1);obtain ⟨A3,c4,rfl,-⟩:=hp2;refine zN ?_;clear H;intro u43 H;have ez:=(OX.ft (H.x 1)).2.2.2;refine zX (tg [g2]) ?_;clear H;intro S w44 hne H;have r0:=H.row (show World.cell? _ ⟨g2,0,none⟩=some (.int .i64 m.r) from (OX.ft (H.x 1)).2.2.1 0 (by decide))
        have r1:=H.row (show World.cell? _ ⟨g2,1,none⟩=some (.int .i64 m.c) from (OX.ft (H.x 1)).2.2.1 1 (by decide))
        intros;refine y_ ((show Calls Tryz.prog 49 #[_,_,_] w44 (NSd true w44) from by rw [<- HFIT.out];exact eB HNV.out HR.out HCC.out w44 (H.f 0).1 dU)) ?_
        rintro K hK e w45 ⟨x0,y0,rfl,hb⟩;replace H:=H.b hb;refine yK ?_;clear hK K;refine yN ?_;clear H;intro u46 H;have en:¬ g2=w.heap.size+1:=fun e=>Hq.nbx (H.r 1) (h0:=w.heap.size+1) (by repeat (with_reducible first | exact Has.h0 | apply Has.t0)) (by rw [e];rfl)
        have ez:=(OX.ft (H.x 1)).2.2.2;refine zX (tg [gY,g2]) ?_;clear H;intro S w47 hne H;refine zD (H.c 3) ?_;intro G;have r0:=H.row (show World.cell? _ ⟨g2,0,none⟩=some (.int .i64 m.r) from (OX.ft (H.x 1)).2.2.1 0 (by decide))
        have r1:=H.row (show World.cell? _ ⟨g2,1,none⟩=some (.int .i64 m.c) from (OX.ft (H.x 1)).2.2.1 1 (by decide))
        refine yB ((show Calls Tryz.prog 51 #[_,_,_] w47 (fb N w47) from by rw [HND.out];exact sz HNV.out HR.out HCC.out HFIT.out w47 (H.f 0).1 dU)) ?_;clear H;intro w48 H
        refine yB (sA N.a N.b N.c N.d w48) ?_;clear H;intro w49 H;refine yS ?_;clear H;intro w50 H;refine yN ?_;clear H G;intro u51 H;refine zS_ ?_;clear H;intro u52 H
        exact ⟨((net,s),nt [N.a,N.b,N.c,N.d]),AN,cN,cssN,FN,HLN.out,rfl,(H.x 2),H.O⟩
       ·have te:(bs tx).toList.isEmpty=false:=mq HTX.out;have HLN:Hid (LnR net s l ((net,s),tNo)):=by have h:=lH (net:=net) (s:=s) HC1.out HC2.out HCM.out (by omega) HTX.out HRD.out (.inl rfl);rw [show eu ([m].getD 0 Mx.z) net s=none from by show eu m net s=_;unfold eu;rw [if_neg hfit]] at h;exact h
        have HFIT:Hid ((bE (bh net) (some (m.r,m.c))).isSome=false):=by unfold Hid;simpa using hfit
        clear hmv hfit;obtain ⟨cs2,g2,rfl,rfl,-,hp2,-⟩:=OX.one (H.x 1);obtain ⟨A3,c4,rfl,-⟩:=hp2;refine zN ?_;clear H;intro u43 H;have ez:=(OX.ft (H.x 1)).2.2.2;refine zX (tg [g2]) ?_;clear H;intro S w44 hne H;have r0:=H.row (show World.cell? _ ⟨g2,0,none⟩=some (.int .i64 m.r) from (OX.ft (H.x 1)).2.2.1 0 (by decide))
        have r1:=H.row (show World.cell? _ ⟨g2,1,none⟩=some (.int .i64 m.c) from (OX.ft (H.x 1)).2.2.1 1 (by decide))
        intros;refine y_ ((show Calls Tryz.prog 49 #[_,_,_] w44 (NSd false w44) from by rw [<- HFIT.out];exact eB HNV.out HR.out HCC.out w44 (H.f 0).1 dU)) ?_
        rintro K hK e w45 ⟨x0,y0,rfl,hb⟩;replace H:=H.b hb;refine yK ?_;clear hK K;refine yN ?_;clear H;intro u46 H;refine zS_ ?_;clear H;intro u47 H
        exact ⟨((net,s),tNo),AN,cN,cssN,FN,HLN.out,rfl,(H.x 2),H.O⟩
      ·have te:(bs tx).toList.isEmpty=false:=mq HTX.out;have hn1:¬ (ms.length:Int)=1:=by omega
       have HLN:=Lib.hid (nP (net:=net) (s:=s) HC1.out HC2.out HCM.out (by omega) HTX.out fun ms' h=>absurd h.1 (by rw [(h.2 (by omega)).one HRD.out];exact h1))
       refine zS_ ?_;clear H;intro u43 H
       exact ⟨((net,s),tNo),AN,cN,cssN,FN,HLN.out,rfl,(H.x 2),H.O⟩
   ·obtain ⟨h1,h2,h3,h4⟩:=hw;obtain ⟨c1,c2,c3,c4⟩:=Bj h1 h2 h3 h4;have HLN:Hid (LnR net s l ((net,s),fa)):=by
     by_cases h5:nm=[114,97,109,112]
     ·unfold Hid LnR;rw [HC1.out,h5];refine .inl ⟨.inl ⟨rfl,?_⟩,rfl⟩
      exact Classical.byContradiction fun hc=>HRP.out ((xG (by simpa using hc)).symm.trans (HC1.out.trans h5))
     ·exact wB HC1.out (by unfold ei;rw [if_neg h1,if_neg h5,if_neg h2,if_neg h3,if_neg h4])
    clear h1 h2 h3 h4;refine zS_ ?_;clear H;intro u43 H
    exact ⟨((net,s),fa),AN,cN,cssN,FN,HLN.out,rfl,(H.x 2),H.O⟩
end
section
attribute [local go_sem] af ah ae
def Lx (x:List SL×Int) (l:List UInt8) (r:Res):Prop:=if svB x=true then LnR x.1 x.2 l r else r=(([],0),[])
theorem Lx.one {x:List SL×Int} {l:List UInt8} {a b:Res} (h:Lx x l a) (k:Lx x l b):a=b:=by
 unfold Lx at h k
 split at h
 ·rename_i e
  rw [if_pos e] at k
  exact h.one k
 ·rename_i e
  rw [if_neg e] at k;rw [h,k]
theorem xm {x:List SL×Int} (h:svB x=true):jO x.1 x.2:=by
 unfold svB at h
 simpa [jO,Bool.and_eq_true] using h
theorem Lx.nk {x:List SL×Int} {l:List UInt8} {r:Res} (h:Lx x l r):bu r.1.1=true\/r.1.1=[]:=by
 unfold Lx at h
 split at h
 ·rename_i e
  exact .inl (h.ok (xm e)).1
 ·exact .inr (by rw [h])
theorem Lx.sv {x:List SL×Int} {l:List UInt8} {r:Res} (h:Lx x l r):svS r.1:=by
 rcases h.nk with h | h
 ·exact mg h
 ·exact ⟨by rw [h];simp,fun l hl=>by rw [h] at hl;cases hl⟩
def LxP (x:List SL×Int) (l:List UInt8) (w:World) (e:Ending) (w':World):Prop:=∃ (r:Res) (A:Option Addr) (c:Nat) (F:List Nat),Lx x l r/\e= .returned (.tuple #[.agg #[.slice A r.1.1.length c,.int .i64 r.1.2],.string (bs r.2)])/\RI (kE smE) w' A r.1.1.length c r.1.1 F/\Fr w' w.heap.size F/\Below w.heap.size w w'
theorem LxP.bad {x:List SL×Int} {l:List UInt8} {w:World} {e:Ending} {w':World} (hv:svB x=false) (h:LnN w e w'):LxP x l w e w':=⟨(([],0),[]),none,0,[],by unfold Lx;rw [hv];rfl,h.1,RI.nil _ _ (by unfold maxLen;omega),Fr.nil _ _,h.2⟩
theorem LxP.yes {x:List SL×Int} {l:List UInt8} {w:World} {e:Ending} {w':World} (hv:svB x=true) (h:LnP x.1 x.2 l w e w'):LxP x l w e w':=by
 obtain ⟨r,A,c,css,F,hr,he,hox,hb⟩:=h;obtain ⟨F',ri,fr⟩:=hox.ri
 exact ⟨r,A,c,F',by unfold Lx;rw [if_pos hv];exact hr,he,ri,fr,hb⟩
theorem BD {x:List SL×Int} (hs:svS x) {l:List UInt8} (hl:l.length<=1048576) {A:Option Addr} {cap:Nat} {F:List Nat} (w:World) (ht:Tab w) (hm:iD w) (hx:RI (kE smE) w A x.1.length cap x.1 F) :
  Calls Tryz.prog 9 #[.agg #[.slice A x.1.length cap,.int .i64 x.2],.string (bs l)] w (LxP x l w):=by
 cases hv:svB x
 ·exact (kf (net:=x.1) (s:=x.2) hv hs w hx).mono fun e w' h=>LxP.bad hv h
 ·exact (mz (xm hv) hl w ht hm hx).mono fun e w' h=>LxP.yes hv h
theorem CL {x:List SL×Int} (hs:svS x) {l:List UInt8} (hl:l.length<=1048576) {A:Option Addr} {cap:Nat} {F:List Nat} (w:World) (hx:RI (kE smE) w A x.1.length cap x.1 F) :
  Calls Tryz.prog 10 #[.agg #[.slice A x.1.length cap,.int .i64 x.2],.string (bs l)] w (LxP x l w):=by
 cases hv:svB x
 ·exact (kN (net:=x.1) (s:=x.2) hv hs w hx).mono fun e w' h=>LxP.bad hv h
 ·exact (mL (xm hv) hl w hx).mono fun e w' h=>LxP.yes hv h
end
end Go.Proofs.YtjciicheoghcdaaGreatDoor
