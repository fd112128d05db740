/- Part of the proof: the law FnServiceRun is true for every input. -/
import Derived.BigQuiet
import Derived.Deep.QuietTactic
import Derived.Test.YtjciicheoghcdaaGreatDoorVA
import Derived.Test.YtjciicheoghcdaaGreatDoorVc
import Derived.Test.YtjciicheoghcdaaGreatDoorVj
import Derived.Test.YtjciicheoghcdaaGreatDoorVm
import Derived.Test.YtjciicheoghcdaaGreatDoorVs
import Derived.Test.YtjciicheoghcdaaGreatDoorVu
import Derived.Test.YtjciicheoghcdaaGreatDoorVv
import Derived.Test.YtjciicheoghcdaaGreatDoorVy
import Derived.Test.YtjciicheoghcdaaGreatDoorVz
namespace Go.Proofs.YtjciicheoghcdaaGreatDoor
open Go.RowKit Go.Proofs.Tryz
set_option linter.all false
set_option maxRecDepth 20000
set_option maxHeartbeats 16000000
section
attribute [local go_sem] af ah ae
def OwS (net:List SL) (s:Int) (w:World) (e:Ending) (w':World):Prop:=∃ A c F,e= .returned (.agg #[.slice A net.length c,.int .i64 s])/\RI (kE smE) w' A net.length c net F/\Fr w' w.heap.size F/\Below w.heap.size w w'
theorem iT {net:List SL} {s:Int} (hs:svS (net,s)) {A:Option Addr} {cap:Nat} {F:List Nat} (w:World) (hx:RI (kE smE) w A net.length cap net F):Calls prog 38 #[.agg #[.slice A net.length cap,.int .i64 s]] w (OwS net s w):=by
 have HX:=Qh hx;have HL:=Qh hs.1;have HS:=Qh hs.2;clear hx hs;refine zE ?_;intro u1 H;refine zI (bW A net.length cap net F u1 (HX.out.below H.O) HL.out HS.out) ?_;clear H;intro w2 AO cO FO u2 H;refine zS_ ?_;clear H;intro u3 H
 exact⟨AO,cO,FO,rfl,(H.f 0).1,(H.f 0).2,H.O⟩
theorem AdR.all {base:Nat} {A:Option Addr} {c:Nat} {css:List (List Value)} {F:List Nat} {net:List SL} {s:Int} {res:Option Res} {w:World} {e:Ending} {w':World} (h:AdR base A c css F net s res w e w'):∃ A' c' css' F',e= .returned (.tuple #[.agg #[.slice A' (res.getD ((net,s),tNo)).1.1.length c',.int .i64 (res.getD ((net,s),tNo)).1.2],.string (bs (res.getD ((net,s),tNo)).2)])/\OX (kE smE) w' base 99 A' (res.getD ((net,s),tNo)).1.1.length c' css' (res.getD ((net,s),tNo)).1.1 F'/\UpL (fun i=>blk A=some i\/i∈F) w w':=by
 obtain⟨h1,h2⟩:=h
 cases res with
 | none=>exact⟨A,c,css,F,h1.1,h1.2,h2⟩
 | some r =>
  obtain⟨A',c',css',F',e,h⟩:=h1
  exact⟨A',c',css',F',e,h,h2⟩
theorem bq (l m:List UInt8):((bs l).toList == m)=(l == m):=by rw[ByteArray.toList_eq];simp[bs]
def Wds (nm:List UInt8) (a b c d:Bool):Prop:=((bs nm).toList == [100,101,110,115,101])=a/\((bs nm).toList == [109,105,120])=b/\((bs nm).toList == [114,117,110])=c/\((bs nm).toList == [110,101,101,100,115])=d
theorem vr {nm:List UInt8} (h:nm=[100,101,110,115,101]):Wds nm true false false false:=by subst h;exact⟨(bq _ _).trans (by decide),(bq _ _).trans (by decide),(bq _ _).trans (by decide),(bq _ _).trans (by decide)⟩
theorem yD {nm:List UInt8} (h:nm=[109,105,120]):Wds nm false true false false:=by subst h;exact⟨(bq _ _).trans (by decide),(bq _ _).trans (by decide),(bq _ _).trans (by decide),(bq _ _).trans (by decide)⟩
theorem yF {nm:List UInt8} (h:nm=[114,117,110]):Wds nm false false true false:=by subst h;exact⟨(bq _ _).trans (by decide),(bq _ _).trans (by decide),(bq _ _).trans (by decide),(bq _ _).trans (by decide)⟩
theorem vu {nm:List UInt8} (h:nm=[110,101,101,100,115]):Wds nm false false false true:=by subst h;exact⟨(bq _ _).trans (by decide),(bq _ _).trans (by decide),(bq _ _).trans (by decide),(bq _ _).trans (by decide)⟩
theorem Bj {nm:List UInt8} (h1:nm≠[100,101,110,115,101]) (h2:nm≠[109,105,120]) (h3:nm≠[114,117,110]) (h4:nm≠[110,101,101,100,115]):Wds nm false false false false:=⟨(bq _ _).trans (by simpa using h1),(bq _ _).trans (by simpa using h2),(bq _ _).trans (by simpa using h3),(bq _ _).trans (by simpa using h4)⟩
theorem words (nm:List UInt8):nm=[100,101,110,115,101]\/nm=[109,105,120]\/nm=[114,117,110]\/nm=[110,101,101,100,115]\/(nm≠[100,101,110,115,101]/\nm≠[109,105,120]/\nm≠[114,117,110]/\nm≠[110,101,101,100,115]):=by
 by_cases h1:nm=[100,101,110,115,101]
 ·exact .inl h1
 ·by_cases h2:nm=[109,105,120]
  ·exact .inr (.inl h2)
  ·by_cases h3:nm=[114,117,110]
   ·exact .inr (.inr (.inl h3))
   ·by_cases h4:nm=[110,101,101,100,115]
    ·exact .inr (.inr (.inr (.inl h4)))
    ·exact .inr (.inr (.inr (.inr ⟨h1,h2,h3,h4⟩)))
theorem mq {l:List UInt8} (h:l≠[]):(bs l).toList.isEmpty=false:=by
 rw[ByteArray.toList_eq]
 cases l with
 | nil=>exact absurd rfl h
 | cons=>rfl
theorem xG {l:List UInt8} (h:(Lib.cut l [32]).2.2=false):(Lib.cut l [32]).1=l:=by
 unfold Lib.cut at h ⊢
 by_cases g:0<=Lib.index l [32]
 ·simp[g] at h
 ·simp[g]
def Gd (ps:List (List UInt8)) (k:Nat) (gd:Bool) (ms:List Mx):Prop:=if gd=true then RdA (ps.take k) ms else ∃ i p,i<k/\ps[i]?=some p/\∀ m,mvB m=true->mt m≠p
theorem Gd.next {ps:List (List UInt8)} {k:Nat} {gd ok:Bool} {ms:List Mx} {p:List UInt8} {m:Mx} (h:Gd ps k gd ms) (hp:ps[k]?=some p) (hm:RMp p m ok):Gd ps (k+1) (gd && ok) (ms++[m]):=by
 unfold Gd at h ⊢
 cases gd
 ·obtain⟨i,yq,hi,hq,hn⟩:=h
  exact⟨i,yq,by omega,hq,hn⟩
 ·rcases hm with⟨rfl,h1,h2⟩|⟨rfl,_,h1⟩
  ·exact RdA.snoc h hp h1 h2
  ·exact⟨k,p,by omega,hp,h1⟩
theorem Gd.yes {ps:List (List UInt8)} {ms:List Mx} (h:Gd ps ps.length true ms):RdA ps ms:=by
 have h:RdA (ps.take ps.length) ms:=h
 rwa [List.take_length] at h
theorem Gd.no {ps:List (List UInt8)} {k:Nat} {ms:List Mx} (h:Gd ps k false ms) (ms':List Mx) (h':RdA ps ms'):False:=by
 obtain⟨i,p,hi,hp,hn⟩:=h;obtain⟨m,hm,_⟩:=aH (xs:=ms') (j:=i) (by rw[<-h'.1];exact(List.getElem?_eq_some_iff.1 hp).1)
 obtain⟨h1,h2⟩:=h'.2 i p m hp hm
 exact hn m h1 h2
theorem RdA.ms {ps:List (List UInt8)} {ms:List Mx} (h:RdA ps ms):∀ m,m∈ms->mvB m=true:=by
 intro m hm;obtain⟨i,hi,e⟩:=List.mem_iff_getElem.1 hm;obtain⟨p,hp,_⟩:=aH (xs:=ps) (j:=i) (by rw[h.1];exact hi)
 exact(h.2 i p m hp (by rw[List.getElem?_eq_getElem hi,e])).1
section
variable {net:List SL} {s:Int} {l nm tx:List UInt8} {k:Nat} {f:List Mx->List SL->Int->Option Res} {ms:List Mx}
theorem wB (h1:(Lib.cut l [32]).1=nm) (hc:ei nm=none):LnR net s l ((net,s),fa):=by unfold LnR;rw[h1,hc]
theorem mR (h1:(Lib.cut l [32]).1=nm) (h2:(Lib.cut l [32]).2.1=tx) (hc:ei nm=some (k,f)) (hk:0<k) (ht:tx=[]):LnR net s l ((net,s),fa):=by unfold LnR;rw[h1,hc];exact .inl ⟨.inr ⟨hk,by rw[h2,ht]⟩,rfl⟩
theorem nP (h1:(Lib.cut l [32]).1=nm) (h2:(Lib.cut l [32]).2.1=tx) (hc:ei nm=some (k,f)) (hk:0<k) (ht:tx≠[]) (h:∀ ms,RdM k tx ms->f ms net s=none):LnR net s l ((net,s),tNo):=by
 unfold LnR;rw[h1,hc];refine .inr ⟨?_,?_⟩
 ·rintro(⟨e,_⟩|⟨_,e⟩)
  ·omega
  ·exact ht (by rw[<-h2];exact e)
 ·by_cases e:∃ ms,RdM k tx ms
  ·obtain⟨ms,e⟩:=e
   exact .inl ⟨ms,by rw[h2];exact e,by rw[h ms e];rfl⟩
  ·exact .inr ⟨fun ms k=>e ⟨ms,by rw[<-h2];exact k⟩,rfl⟩
theorem lH (h1:(Lib.cut l [32]).1=nm) (h2:(Lib.cut l [32]).2.1=tx) (hc:ei nm=some (k,f)) (hk:0<k) (ht:tx≠[]) (hr:RdA (dm tx) ms) (hl:ms.length=k\/f ms net s=none):LnR net s l ((f ms net s).getD ((net,s),tNo)):=by
 by_cases e:ms.length=k
 ·unfold LnR;rw[h1,hc];refine .inr ⟨?_,.inl ⟨ms,by rw[h2];exact⟨e,fun _=>hr⟩,rfl⟩⟩
  rintro(⟨e,_⟩|⟨_,e⟩)
  ·omega
  ·exact ht (by rw[<-h2];exact e)
 ·rw[hl.resolve_left e]
  exact nP h1 h2 hc hk ht fun ms' h=>absurd (h.1) (by rw[(h.2 hk).one hr];exact e)
end
theorem CE {ms:List Mx} (h:aL 1 ms=true):ms.length=2:=by
 rcases eM (l:=((1:Int),ms)) h with⟨_,a,b,e,_⟩|⟨e,_⟩|⟨e,_⟩
 ·rw[show ms=[a,b] from e];rfl
 ·cases e
 ·cases e
theorem CF {ms:List Mx} (h:aL 3 ms=true):ms.length=3:=by
 rcases eM (l:=((3:Int),ms)) h with⟨e,_⟩|⟨e,_⟩|⟨_,a,b,c,e,_⟩
 ·cases e
 ·cases e
 ·rw[show ms=[a,b,c] from e];rfl
theorem uo {kd:Int} {ms:List Mx} {net:List SL} {s:Int} (h:aL kd ms≠true):dI kd ms net s=none:=by unfold dI;rw[if_neg (fun e=>h e.1)]
theorem Bf {sep:List UInt8} (hs:3<=sep.length):∀ (n:Nat) (t:List UInt8),t.length<=n->3*(Lib.split t sep).length<=t.length+3:=by
 intro n
 induction n with
 | zero =>
  intro t ht;have:t=[]:=List.eq_nil_of_length_eq_zero (by omega)
  subst this;rcases Lib.index_spec ([]:List UInt8) sep with⟨h,_⟩|⟨i,_,_,h,_⟩
  ·rw[ie h];simp
  ·have h2:=congrArg List.length (qp h)
   simp at h2
   omega
 | succ n ih =>
  intro t ht;rcases Lib.index_spec t sep with⟨h,_⟩|⟨i,h1,_,h,_⟩
  ·rw[ie h];simp
  ·have h2:=congrArg List.length (qp h);simp only[List.length_append,List.length_take,List.length_drop] at h2;rw[lQ (by intro e;rw[e] at hs;simp at hs) h1]
   have:=ih (t.drop (i+sep.length)) (by rw[List.length_drop];omega)
   rw[List.length_cons,List.length_drop] at *
   omega
theorem wP {l:List UInt8} (h:l.length<=1048576):(dm l).length<=400000:=by
 have:=Bf (sep:=eP) (by decide) l.length l Ql
 unfold dm
 omega
theorem u_ {l p:List UInt8} (h:p∈dm l):p.length<=l.length:=bX (by decide) h
def LnN (w:World) (e:Ending) (w':World):Prop:=e= .returned (.tuple #[.agg #[.slice none 0 0,.int .i64 0],.string (bs [])])/\Below w.heap.size w w'
theorem mL {net:List SL} {s:Int} (h:jO net s) {l:List UInt8} (hl:l.length<=1048576) {A:Option Addr} {cap:Nat} {F:List Nat} (w:World) (hx:RI (kE smE) w A net.length cap net F) :
  Calls prog 10 #[.agg #[.slice A net.length cap,.int .i64 s],.string (bs l)] w (LnP net s l w):=by
 obtain⟨nm,hc1⟩:∃ x,x=(Lib.cut l [32]).1:=⟨_,rfl⟩;obtain⟨tx,hc2⟩:∃ x,x=(Lib.cut l [32]).2.1:=⟨_,rfl⟩;obtain⟨np,hnp⟩:∃ n,n=(dm tx).length:=⟨_,rfl⟩;have htl:tx.length<=1048576:=by rw[hc2];exact Nat.le_trans (tR l) hl
 have hn4:np<=400000:=by rw[hnp];exact wP htl
 have HC1:Hid ((Lib.cut l [32]).1=nm):=hc1.symm;have HC2:Hid ((Lib.cut l [32]).2.1=tx):=hc2.symm;have HSV:Hid (svB (net,s)=true):=by unfold Hid svB;rw[h.1,h.2];rfl
 have HSS:Hid (svS (net,s)):=mg h.1;have HNS:=Qh (mg h.1);have HOK:=Qh h.1;have HSD:=Qh h.2;have H4:=Qh (du h.1).1;have HNP:=Qh hnp;have HTL:=Qh htl;have HN4:=Qh hn4;have HL:=Qh hl;have HX:=Qh hx;clear hc1 hc2 h hl hx hnp htl hn4;refine zE ?_;intro u1 H;refine zI (iT HSS.out u1 (HX.out.below H.O)) ?_;clear H;intro w2 AO cO FO u2 H;refine zG (iS u2 [.slice AO net.length cO,.int .i64 s] (net,s) FO ⟨AO,cO,rfl,(H.f 0).1⟩ HSS.out) ?_;rintro e w3 ⟨rfl,hb⟩;replace H:=H.b hb;rw[HSV.out];clear hb;refine zN ?_;clear H;intro u4 H;refine zG (ou HOK.out u4 (H.f 0).1) ?_;rintro e w5 ⟨AN,cN,cssN,FN,rfl,hox,hb⟩;replace H:=H.ox hb hox;clear hox hb;replace H:=H.d 1;refine zN ?_;clear H;intro u6 H;refine zG (qG l HL.out u6) ?_;rintro e w7 ⟨rfl,hb⟩;replace H:=H.b hb;rw[HC1.out,HC2.out];clear hb;refine zC ?_;intro C;intros
 go_wp2_with fail
 refine nqC (Hq.bsX (T:=37) H mxE rfl) ?_;clear H C;intro u8 H;refine zG (qF tx HTL.out u8) ?_;rintro e w9 ⟨AP,cP,cssP,FP,rfl,hox,hb⟩;replace H:=H.ox hb hox;clear hox hb;rw[<-HNP.out] at H ⊢;refine zN ?_;clear H;intro u10 H;replace H:=((((((H.r 5).r 5).r 4).r 5).r 4).r 5);obtain⟨gY,hgY⟩:∃ g,g=w5.heap.size:=⟨_,rfl⟩;rw[<-hgY] at H ⊢;clear hgY;intros
 go_loopw [12,9,10] (fun vk vl vg wr=>∃ (k cL:Nat) (AL:Option Addr) (cssL:List (List Value)) (ms:List Mx) (FL:List Nat) (gd:Bool),k<=np/\vk= .int .i64 k/\vl= .slice AL k cL/\vg= .bool gd/\Hid (Gd (dm tx) k gd ms)/\Hid (Hq w [qX mxE w.heap.size 37 AL k cL cssL ms FL,qX txE w.heap.size 9 AP np cP cssP (dm tx) FP,qX (kE smE) w.heap.size 99 AN net.length cN cssN net FN,qB gY 25 [.slice AN net.length cN,.int .i64 s],qB (w.heap.size+1) 25 [.slice none 0 0,.int .i64 0],qB w.heap.size 25 [.slice AO net.length cO,.int .i64 s]] wr)) (fun vk _ _ _=>np-(intOf vk).toNat)
 case atStart=>exact⟨0,0,_,[],[],[],true,Nat.zero_le _,rfl,rfl,rfl,RdA.nil,H⟩
 case round =>
 clear H;obtain⟨k,cL,AL,cssL,ms,FL,gd,hk,rfl,rfl,rfl,HG,H⟩:=hrel;have H:=H.out;have hk4:k<=400000:=Nat.le_trans hk HN4.out
 by_cases hlt:k<np
 ·obtain⟨p,hp,hmem⟩:=aH (xs:=dm tx) (j:=k) (by rw[<-HNP.out];exact hlt)
  have HP:=Qh hp;have HPL:Hid (p.length<=1048576):=Nat.le_trans (u_ hmem) HTL.out;obtain⟨F9,hri,-,-⟩:=OX.rf (H.x 1);obtain⟨b,off,cs,F8,rfl,hb9,hc9,_,hcs⟩:=hri.cells hp 1 rfl;obtain⟨rfl,-⟩:=hcs;have hc0:wr.cell? ⟨b,off+k,none⟩=some (.string (bs p)):=by have:=hc9 0 (by omega);simpa using this
  have zb:=hb9;have k0:(0:Int)<=(k:Int):=by omega
  have k1:(k:Int)<(np:Int):=by omega
  clear hp hmem hri hc9 hb9;refine zN ?_;clear H;intro u21 H;refine zG (qy p HPL.out u21) ?_;rintro e w22 ⟨m,ok,Am,cm,rfl,hos,hrm,hb⟩;replace H:=H.os hb hos;clear hos hb;have HGN:=Qh (HG.out.next HP.out hrm);clear hrm hc0 zb
  cases gd <;> cases ok
  all_goals
   refine zC ?_;intro C;intros
   go_wp2_with (at_builtin;refine zM ?_)
   clear H C;intro u23 H;have hx:mxE.P u23 [.int .i64 m.r,.int .i64 m.c,.slice Am m.v.length cm] m (fpI Am m.v.length):=⟨Am,cm,rfl,MF.aB (H.o 2)⟩;have hf:=ek (H.o 2);replace H:=((H.r 2).r 3);refine zAx (an4 apM hx hf (fun i hi=>(bz hi).2)) ?_;clear H hx hf;intro g1 k1 w21 H
   replace H:=((H.d 1).d 1);refine zC ?_;intro C;intros;go_wp2
   go_roundw
   case rel=>exact⟨k+1,k1,some ⟨g1,0,none⟩,_,_,_,_,by omega,by go_num,rfl,rfl,HGN,H⟩
   case measure=>simp[intOf];omega
 ·obtain rfl:k=np:=by omega
  obtain rfl:ms.length=k:=(H.x 0).2.1;refine zN ?_;clear H;intro u41 H;obtain⟨F9,hri,-⟩:=OX.rf (H.x 2);refine zG (je _ _ _ net _ u41 hri HNS.out) ?_;rintro e w42 ⟨AJ,nj,cj,FJ,rfl,hrj,hfr,hb⟩;replace H:=H.rf hb hrj hfr;rw[HOK.out];obtain rfl:=hrj.len;clear hrj hfr hb hri;replace H:=H.d 2
  by_cases hr:l=[114,97,109,112]
  ·have c0:((bs l).toList == [114,97,109,112])=true:=(bq _ _).trans (by rw[hr];decide)
   have HLN:Hid (LnR net s l ((dI 2 [] net s).getD ((net,s),tNo))):=by unfold Hid LnR;rw[hr];exact .inr ⟨by rintro(⟨_,h⟩|⟨h,_⟩);cases h;omega,.inl ⟨[],⟨rfl,fun h=>absurd h (by omega)⟩,rfl⟩⟩
   clear hr;refine zN ?_;clear H;intro u43 H;have hri:RI mxE u43 none 0 0 [] []:=RI.nil _ _ (by unfold maxLen;omega)
   have hmS:∀ m,m∈([]:List Mx)->mS m:=fun m h=>by cases h
   have hml:([]:List Mx).length<=1048576:=by simp
   refine zG (jR (kd:=2) (ms:=[]) H4.out HSD.out u43 H.m (H.x 2) hri hmS hml) ?_;rintro e w44 hr;obtain⟨A5,c5,css5,F5,rfl,X5,hu⟩:=AdR.all hr;clear hr hri hmS hml;replace H:=Hq.ul (H.r 2) hu (fun i hi=>hi)
   replace H:=H.d 0;replace H:=H.d 0;replace H:=Hq.adV H X5;clear X5 hu;obtain⟨r,hres⟩:∃ r,r=(dI 2 [] net s).getD ((net,s),tNo):=⟨_,rfl⟩;rw[<-hres] at H HLN ⊢;clear hres;refine zS_ ?_;clear H;intro u45 H
   exact⟨r,A5,c5,css5,F5,HLN.out,rfl,(H.x 0),H.O⟩
  ·have c0:((bs l).toList == [114,97,109,112])=false:=(bq _ _).trans (by simpa using hr)
   have HRP:=Qh hr;clear hr;rcases words nm with hw|hw|hw|hw|hw
   ·obtain⟨c1,c2,c3,c4⟩:=vr hw;have hcm:ei nm=some (2,fun ms=>dI 1 ms):=by rw[hw];rfl
    have HCM:=Qh hcm;clear hcm hw
    by_cases ht:tx=[]
    ·have te:(bs tx).toList.isEmpty=true:=by rw[ht,ByteArray.toList_eq];rfl
     have HLN:=Qh (mR (net:=net) (s:=s) HC1.out HC2.out HCM.out (by omega) ht)
     clear ht;refine zS_ ?_;clear H;intro u43 H
     exact⟨((net,s),fa),AN,cN,cssN,FN,HLN.out,rfl,(H.x 2),H.O⟩
    ·have HTX:=Qh ht;clear ht
     cases gd with
     | false =>
      have te:(bs tx).toList.isEmpty=false:=mq HTX.out;have HLN:=Qh (nP (net:=net) (s:=s) HC1.out HC2.out HCM.out (by omega) HTX.out fun ms h=>absurd (h.2 (by omega)) (Gd.no HG.out _))
      refine zS_ ?_;clear H;intro u43 H
      exact⟨((net,s),tNo),AN,cN,cssN,FN,HLN.out,rfl,(H.x 2),H.O⟩
     | true =>
      have HRD:=Qh (Gd.yes (ms:=ms) (by have:=HG.out;rwa [HNP.out] at this))
      have te:(bs tx).toList.isEmpty=false:=mq HTX.out;have HLN:=Qh (lH (net:=net) (s:=s) HC1.out HC2.out HCM.out (by omega) HTX.out HRD.out (Classical.or_iff_not_imp_left.2 fun h=>uo fun e=>h (CE e)))
      refine zN ?_;clear H;intro u43 H;obtain⟨FM,hri,-⟩:=OX.rf (H.x 1);have hmS:∀ m,m∈ms->mS m:=fun m hm=>by have:=dy (HRD.out.ms m hm);unfold mS;omega
      have hml:ms.length<=1048576:=by have:=HN4.out;omega
      refine zG (jR (kd:=1) (ms:=ms) H4.out HSD.out u43 H.m (H.x 2) hri hmS hml) ?_;rintro e w44 hr;obtain⟨A5,c5,css5,F5,rfl,X5,hu⟩:=AdR.all hr;clear hr hri hmS hml;replace H:=Hq.ul (H.r 2) hu (fun i hi=>hi)
      replace H:=H.d 0;replace H:=H.d 0;replace H:=Hq.adV H X5;clear X5 hu;obtain⟨r,hres⟩:∃ r,r=(dI 1 ms net s).getD ((net,s),tNo):=⟨_,rfl⟩;rw[<-hres] at H HLN ⊢;clear hres;refine zS_ ?_;clear H;intro u45 H
      exact⟨r,A5,c5,css5,F5,HLN.out,rfl,(H.x 0),H.O⟩
   ·obtain⟨c1,c2,c3,c4⟩:=yD hw;have hcm:ei nm=some (3,fun ms=>dI 3 ms):=by rw[hw];rfl
    have HCM:=Qh hcm;clear hcm hw
    by_cases ht:tx=[]
    ·have te:(bs tx).toList.isEmpty=true:=by rw[ht,ByteArray.toList_eq];rfl
     have HLN:=Qh (mR (net:=net) (s:=s) HC1.out HC2.out HCM.out (by omega) ht)
     clear ht;refine zS_ ?_;clear H;intro u43 H
     exact⟨((net,s),fa),AN,cN,cssN,FN,HLN.out,rfl,(H.x 2),H.O⟩
    ·have HTX:=Qh ht;clear ht
     cases gd with
     | false =>
      have te:(bs tx).toList.isEmpty=false:=mq HTX.out;have HLN:=Qh (nP (net:=net) (s:=s) HC1.out HC2.out HCM.out (by omega) HTX.out fun ms h=>absurd (h.2 (by omega)) (Gd.no HG.out _))
      refine zS_ ?_;clear H;intro u43 H
      exact⟨((net,s),tNo),AN,cN,cssN,FN,HLN.out,rfl,(H.x 2),H.O⟩
     | true =>
      have HRD:=Qh (Gd.yes (ms:=ms) (by have:=HG.out;rwa [HNP.out] at this))
      have te:(bs tx).toList.isEmpty=false:=mq HTX.out;have HLN:=Qh (lH (net:=net) (s:=s) HC1.out HC2.out HCM.out (by omega) HTX.out HRD.out (Classical.or_iff_not_imp_left.2 fun h=>uo fun e=>h (CF e)))
      refine zN ?_;clear H;intro u43 H;obtain⟨FM,hri,-⟩:=OX.rf (H.x 1);have hmS:∀ m,m∈ms->mS m:=fun m hm=>by have:=dy (HRD.out.ms m hm);unfold mS;omega
      have hml:ms.length<=1048576:=by have:=HN4.out;omega
      refine zG (jR (kd:=3) (ms:=ms) H4.out HSD.out u43 H.m (H.x 2) hri hmS hml) ?_;rintro e w44 hr;obtain⟨A5,c5,css5,F5,rfl,X5,hu⟩:=AdR.all hr;clear hr hri hmS hml;replace H:=Hq.ul (H.r 2) hu (fun i hi=>hi)
      replace H:=H.d 0;replace H:=H.d 0;replace H:=Hq.adV H X5;clear X5 hu;obtain⟨r,hres⟩:∃ r,r=(dI 3 ms net s).getD ((net,s),tNo):=⟨_,rfl⟩;rw[<-hres] at H HLN ⊢;clear hres;refine zS_ ?_;clear H;intro u45 H
      exact⟨r,A5,c5,css5,F5,HLN.out,rfl,(H.x 0),H.O⟩
   ·obtain⟨c1,c2,c3,c4⟩:=yF hw;have hcm:ei nm=some (1,fun ms=>ic (ms.getD 0 Mx.z)):=by rw[hw];rfl
    have HCM:=Qh hcm;clear hcm hw
    by_cases ht:tx=[]
    ·have te:(bs tx).toList.isEmpty=true:=by rw[ht,ByteArray.toList_eq];rfl
     have HLN:=Qh (mR (net:=net) (s:=s) HC1.out HC2.out HCM.out (by omega) ht)
     clear ht;refine zS_ ?_;clear H;intro u43 H
     exact⟨((net,s),fa),AN,cN,cssN,FN,HLN.out,rfl,(H.x 2),H.O⟩
    ·have HTX:=Qh ht;clear ht
     cases gd with
     | false =>
      have te:(bs tx).toList.isEmpty=false:=mq HTX.out;have HLN:=Qh (nP (net:=net) (s:=s) HC1.out HC2.out HCM.out (by omega) HTX.out fun ms h=>absurd (h.2 (by omega)) (Gd.no HG.out _))
      refine zS_ ?_;clear H;intro u43 H
      exact⟨((net,s),tNo),AN,cN,cssN,FN,HLN.out,rfl,(H.x 2),H.O⟩
     | true =>
      have HRD:=Qh (Gd.yes (ms:=ms) (by have:=HG.out;rwa [HNP.out] at this))
      by_cases h1:ms.length=1
      ·obtain⟨m,rfl⟩:=List.length_eq_one_iff.1 h1;have hmv:mvB m=true:=HRD.out.ms m (by simp)
       have HMS:Hid (mS m):=by have:=dy hmv;unfold Hid mS;omega
       obtain⟨hz1,hz2,hz3,hz4⟩:=jg hmv HSD.out;obtain⟨z,hz⟩:∃ z,z=cH m s:=⟨_,rfl⟩;have HZ:=Qh hz;rw[<-hz] at hz1 hz2 hz3 hz4;have HZ1:=Qh hz1;have HZ4:=Qh hz4
       by_cases hfit:(bE (bh net) (some (m.r,m.c))).isSome=true
       ·have te:(bs tx).toList.isEmpty=false:=mq HTX.out;have HFZ:Hid ((bE (bh net) (some (z.1.1.r,z.1.1.c))).isSome=true):=by show _=_;rw[hz2,hz3];simpa using hfit
        obtain⟨hy1,hy2⟩:=tm HOK.out hmv HSD.out hfit;obtain⟨y,hy⟩:∃ y,y=fD net (z.1,z.2):=⟨_,rfl⟩;have HLN:Hid (LnR net s l ((net,y.2),mt (aq y.1))):=by have h:=lH (net:=net) (s:=s) HC1.out HC2.out HCM.out (by omega) HTX.out HRD.out (.inl rfl);rw[show ic ([m].getD 0 Mx.z) net s=some ((net,y.2),mt (aq y.1)) from by show ic m net s=_;unfold ic;rw[if_pos hfit,<-hz,hy]] at h;exact h
        rw[<-hz,show z=(z.1,z.2) from rfl,<-hy] at hy1 hy2
        have HY:=Qh hy;have HY1:=Qh hy1;have HY0:Hid ((y.2 == 0)=false):=by have:=dH hy2;show _=_;simp;omega
        have HJL:Hid ((aq y.1).v.length<=1048576):=by have:=pq y.1;unfold mS at this;exact this
        clear hy hy1 hy2;clear hz hz1 hz2 hz3 hz4 hmv hfit;obtain⟨cs2,g2,rfl,rfl,-,hp2,-⟩:=OX.one (H.x 1);obtain⟨A3,c4,rfl,-⟩:=hp2;refine zN ?_;clear H;intro u43 H;have ez:=(OX.ft (H.x 1)).2.2.2;have E:=H.el;refine zXF (tgF [gY,g2] 9 17 (.cells #[.int .i64 0,.int .i64 0,.slice none 0 0,.int .i64 0,.int .i64 0,.slice none 0 0] 82)) ?_;clear H;intro S w44 hne H;refine zD (H.c 3) ?_;intro G;have r0:=H.row (show World.cell? _ ⟨g2,0,none⟩=some (.int .i64 m.r) from(OX.ft (H.x 1)).2.2.1 0 (by decide))
        have r1:=H.row (show World.cell? _ ⟨g2,1,none⟩=some (.int .i64 m.c) from(OX.ft (H.x 1)).2.2.1 1 (by decide))
        have r2:=H.row (show World.cell? _ ⟨g2,2,none⟩=some (.slice A3 m.v.length c4) from(OX.ft (H.x 1)).2.2.1 2 (by decide))
        intros;refine f_ (fun w45 (hb:Bw w44 w45)=>(show Calls prog 45 #[.agg #[.int .i64 m.r,.int .i64 m.c,.slice A3 m.v.length c4],.int .i64 s] w45 (vB z.1 z.2 w45) from by rw[HZ.out];exact e_ w45 [.int .i64 m.r,.int .i64 m.c,.slice A3 m.v.length c4] m _ (OX.ft ((H.b hb).x 1)).1 HMS.out s)) ?_;clear H
        rintro w45 K hK H e w46 ⟨X,Y,cx,cy,rfl,f1,f2,-,hb⟩;replace H:=H.ss hb f1 f2;clear f1 f2;refine fK ?_;clear hK K hb;refine yG ?_;clear H;intro w47 g47 hg47 H;refine yS ?_;clear H;intro w48 H;refine yN ?_;clear H G;intro u49 H;obtain⟨F9,hri,-⟩:=OX.rf (H.x 4);refine zG ((show Calls prog 46 #[_,_,_] u49 (pM y.1 y.2 u49) from by rw[HY.out];exact DX HOK.out HNS.out HZ1.out HZ4.out HFZ.out u49 hri (H.rs 1))) ?_
        rintro e w50 ⟨PA,pa,PB,pb,C1,cm,ck,cv,rfl,h1,h2,h3,hb⟩;replace H:=H.so hb h1 h2 h3;clear h1 h2 h3 hb hri;have hy0:=HY0.out;refine zN ?_;clear H;intro u51 H;refine zX (tg [w50.heap.size,gY]) ?_;clear H;intro S w52 hne H;refine zD ((And.intro (H.c 0) (H.c 7))) ?_;intro G;refine yO (gi HY1.out w52 (qS.rs (Ow.P1 (H.p 1)))) ?_;clear H;intro w53 J cJ H;refine yB (kM (aq y.1).r (aq y.1).c (aq y.1).v J _ cJ w53 (H.o 0).si HJL.out) ?_;clear H;intro w54 H;refine yS ?_;clear H;intro w55 H;refine yN ?_;clear H G;intro u56 H;refine zS_ ?_;clear H;intro u57 H
        exact⟨((net,y.2),mt (aq y.1)),AN,cN,cssN,FN,HLN.out,rfl,(H.x 7),H.O⟩
       ·have te:(bs tx).toList.isEmpty=false:=mq HTX.out;have HFZ:Hid ((bE (bh net) (some (z.1.1.r,z.1.1.c))).isSome=false):=by show _=_;rw[hz2,hz3];simpa using hfit
        have HLN:Hid (LnR net s l ((net,s),tNo)):=by have h:=lH (net:=net) (s:=s) HC1.out HC2.out HCM.out (by omega) HTX.out HRD.out (.inl rfl);rw[show ic ([m].getD 0 Mx.z) net s=none from by show ic m net s=_;unfold ic;rw[if_neg hfit]] at h;exact h
        clear hz hz1 hz2 hz3 hz4 hmv hfit;obtain⟨cs2,g2,rfl,rfl,-,hp2,-⟩:=OX.one (H.x 1);obtain⟨A3,c4,rfl,-⟩:=hp2;refine zN ?_;clear H;intro u43 H;have ez:=(OX.ft (H.x 1)).2.2.2;have E:=H.el;refine zXF (tgF [gY,g2] 9 17 (.cells #[.int .i64 0,.int .i64 0,.slice none 0 0,.int .i64 0,.int .i64 0,.slice none 0 0] 82)) ?_;clear H;intro S w44 hne H;refine zD (H.c 3) ?_;intro G;have r0:=H.row (show World.cell? _ ⟨g2,0,none⟩=some (.int .i64 m.r) from(OX.ft (H.x 1)).2.2.1 0 (by decide))
        have r1:=H.row (show World.cell? _ ⟨g2,1,none⟩=some (.int .i64 m.c) from(OX.ft (H.x 1)).2.2.1 1 (by decide))
        have r2:=H.row (show World.cell? _ ⟨g2,2,none⟩=some (.slice A3 m.v.length c4) from(OX.ft (H.x 1)).2.2.1 2 (by decide))
        intros;refine f_ (fun w45 (hb:Bw w44 w45)=>(show Calls prog 45 #[.agg #[.int .i64 m.r,.int .i64 m.c,.slice A3 m.v.length c4],.int .i64 s] w45 (vB z.1 z.2 w45) from by rw[HZ.out];exact e_ w45 [.int .i64 m.r,.int .i64 m.c,.slice A3 m.v.length c4] m _ (OX.ft ((H.b hb).x 1)).1 HMS.out s)) ?_;clear H
        rintro w45 K hK H e w46 ⟨X,Y,cx,cy,rfl,f1,f2,-,hb⟩;replace H:=H.ss hb f1 f2;clear f1 f2;refine fK ?_;clear hK K hb;refine yG ?_;clear H;intro w47 g47 hg47 H;refine yS ?_;clear H;intro w48 H;refine yN ?_;clear H G;intro u49 H;obtain⟨F9,hri,-⟩:=OX.rf (H.x 4);refine zG (oh HOK.out HNS.out HZ1.out HZ4.out HFZ.out u49 hri (H.rs 1)) ?_;rintro e w50 ⟨C9,k9,rfl,hb⟩;replace H:=H.b hb;clear hri hb;refine zS_ ?_;clear H;intro u51 H
        exact⟨((net,s),tNo),AN,cN,cssN,FN,HLN.out,rfl,(H.x 5),H.O⟩
      ·have te:(bs tx).toList.isEmpty=false:=mq HTX.out;have hn1:¬(ms.length:Int)=1:=by omega
       have HLN:=Qh (nP (net:=net) (s:=s) HC1.out HC2.out HCM.out (by omega) HTX.out fun ms' h=>absurd h.1 (by rw[(h.2 (by omega)).one HRD.out];exact h1))
       refine zS_ ?_;clear H;intro u43 H
       exact⟨((net,s),tNo),AN,cN,cssN,FN,HLN.out,rfl,(H.x 2),H.O⟩
   ·obtain⟨c1,c2,c3,c4⟩:=vu hw;have hcm:ei nm=some (1,fun ms=>eu (ms.getD 0 Mx.z)):=by rw[hw];rfl
    have HCM:=Qh hcm;clear hcm hw
    by_cases ht:tx=[]
    ·have te:(bs tx).toList.isEmpty=true:=by rw[ht,ByteArray.toList_eq];rfl
     have HLN:=Qh (mR (net:=net) (s:=s) HC1.out HC2.out HCM.out (by omega) ht)
     clear ht;refine zS_ ?_;clear H;intro u43 H
     exact⟨((net,s),fa),AN,cN,cssN,FN,HLN.out,rfl,(H.x 2),H.O⟩
    ·have HTX:=Qh ht;clear ht
     cases gd with
     | false =>
      have te:(bs tx).toList.isEmpty=false:=mq HTX.out;have HLN:=Qh (nP (net:=net) (s:=s) HC1.out HC2.out HCM.out (by omega) HTX.out fun ms h=>absurd (h.2 (by omega)) (Gd.no HG.out _))
      refine zS_ ?_;clear H;intro u43 H
      exact⟨((net,s),tNo),AN,cN,cssN,FN,HLN.out,rfl,(H.x 2),H.O⟩
     | true =>
      have HRD:=Qh (Gd.yes (ms:=ms) (by have:=HG.out;rwa [HNP.out] at this))
      by_cases h1:ms.length=1
      ·obtain⟨m,rfl⟩:=List.length_eq_one_iff.1 h1;have hmv:mvB m=true:=HRD.out.ms m (by simp)
       have HR:=Qh (aA hmv).1;have HCC:=Qh (aA hmv).2;have HNV:=Qh (eN HOK.out)
       by_cases hfit:(bE (bh net) (some (m.r,m.c))).isSome=true
       ·have te:(bs tx).toList.isEmpty=false:=mq HTX.out;obtain⟨N,hN⟩:∃ N,N=(ndN (bh net) (Nd.z,some (m.r,m.c))).1:=⟨_,rfl⟩;have HLN:Hid (LnR net s l ((net,s),nt [N.a,N.b,N.c,N.d])):=by have h:=lH (net:=net) (s:=s) HC1.out HC2.out HCM.out (by omega) HTX.out HRD.out (.inl rfl);rw[show eu ([m].getD 0 Mx.z) net s=some ((net,s),nt [N.a,N.b,N.c,N.d]) from by show eu m net s=_;unfold eu;rw[if_pos hfit,hN]] at h;exact h
        have HND:=Qh hN;have HFIT:=Qh hfit;clear hN;clear hmv hfit;obtain⟨cs2,g2,rfl,rfl,-,hp2,-⟩:=OX.one (H.x 1);obtain⟨A3,c4,rfl,-⟩:=hp2;refine zN ?_;clear H;intro u43 H;have ez:=(OX.ft (H.x 1)).2.2.2;refine zX (tg [g2]) ?_;clear H;intro S w44 hne H;have r0:=H.row (show World.cell? _ ⟨g2,0,none⟩=some (.int .i64 m.r) from(OX.ft (H.x 1)).2.2.1 0 (by decide))
        have r1:=H.row (show World.cell? _ ⟨g2,1,none⟩=some (.int .i64 m.c) from(OX.ft (H.x 1)).2.2.1 1 (by decide))
        intros;refine y_ ((show Calls prog 49 #[_,_,_] w44 (NSd true w44) from by rw[<-HFIT.out];exact eB HNV.out HR.out HCC.out w44 (H.f 0).1 dU)) ?_
        rintro K hK e w45 ⟨x0,y0,rfl,hb⟩;replace H:=H.b hb;refine yK ?_;clear hK K;refine yN ?_;clear H;intro u46 H;have en:¬g2=w.heap.size+1:=fun e=>Hq.nbx (H.r 1) (h0:=w.heap.size+1) (by repeat (with_reducible first|exact Has.h0|apply Has.t0)) (by rw[e];rfl)
        have ez:=(OX.ft (H.x 1)).2.2.2;refine zX (tg [gY,g2]) ?_;clear H;intro S w47 hne H;refine zD (H.c 3) ?_;intro G;have r0:=H.row (show World.cell? _ ⟨g2,0,none⟩=some (.int .i64 m.r) from(OX.ft (H.x 1)).2.2.1 0 (by decide))
        have r1:=H.row (show World.cell? _ ⟨g2,1,none⟩=some (.int .i64 m.c) from(OX.ft (H.x 1)).2.2.1 1 (by decide))
        refine yB ((show Calls prog 51 #[_,_,_] w47 (fb N w47) from by rw[HND.out];exact sz HNV.out HR.out HCC.out HFIT.out w47 (H.f 0).1 dU)) ?_;clear H;intro w48 H
        refine yB (sA N.a N.b N.c N.d w48) ?_;clear H;intro w49 H;refine yS ?_;clear H;intro w50 H;refine yN ?_;clear H G;intro u51 H;refine zS_ ?_;clear H;intro u52 H
        exact⟨((net,s),nt [N.a,N.b,N.c,N.d]),AN,cN,cssN,FN,HLN.out,rfl,(H.x 2),H.O⟩
       ·have te:(bs tx).toList.isEmpty=false:=mq HTX.out;have HLN:Hid (LnR net s l ((net,s),tNo)):=by have h:=lH (net:=net) (s:=s) HC1.out HC2.out HCM.out (by omega) HTX.out HRD.out (.inl rfl);rw[show eu ([m].getD 0 Mx.z) net s=none from by show eu m net s=_;unfold eu;rw[if_neg hfit]] at h;exact h
        have HFIT:Hid ((bE (bh net) (some (m.r,m.c))).isSome=false):=by unfold Hid;simpa using hfit
        clear hmv hfit;obtain⟨cs2,g2,rfl,rfl,-,hp2,-⟩:=OX.one (H.x 1);obtain⟨A3,c4,rfl,-⟩:=hp2;refine zN ?_;clear H;intro u43 H;have ez:=(OX.ft (H.x 1)).2.2.2;refine zX (tg [g2]) ?_;clear H;intro S w44 hne H;have r0:=H.row (show World.cell? _ ⟨g2,0,none⟩=some (.int .i64 m.r) from(OX.ft (H.x 1)).2.2.1 0 (by decide))
        have r1:=H.row (show World.cell? _ ⟨g2,1,none⟩=some (.int .i64 m.c) from(OX.ft (H.x 1)).2.2.1 1 (by decide))
        intros;refine y_ ((show Calls prog 49 #[_,_,_] w44 (NSd false w44) from by rw[<-HFIT.out];exact eB HNV.out HR.out HCC.out w44 (H.f 0).1 dU)) ?_
        rintro K hK e w45 ⟨x0,y0,rfl,hb⟩;replace H:=H.b hb;refine yK ?_;clear hK K;refine yN ?_;clear H;intro u46 H;refine zS_ ?_;clear H;intro u47 H
        exact⟨((net,s),tNo),AN,cN,cssN,FN,HLN.out,rfl,(H.x 2),H.O⟩
      ·have te:(bs tx).toList.isEmpty=false:=mq HTX.out;have hn1:¬(ms.length:Int)=1:=by omega
       have HLN:=Qh (nP (net:=net) (s:=s) HC1.out HC2.out HCM.out (by omega) HTX.out fun ms' h=>absurd h.1 (by rw[(h.2 (by omega)).one HRD.out];exact h1))
       refine zS_ ?_;clear H;intro u43 H
       exact⟨((net,s),tNo),AN,cN,cssN,FN,HLN.out,rfl,(H.x 2),H.O⟩
   ·obtain⟨h1,h2,h3,h4⟩:=hw;obtain⟨c1,c2,c3,c4⟩:=Bj h1 h2 h3 h4;have HLN:Hid (LnR net s l ((net,s),fa)):=by
     by_cases h5:nm=[114,97,109,112]
     ·unfold Hid LnR;rw[HC1.out,h5];refine .inl ⟨.inl ⟨rfl,?_⟩,rfl⟩
      exact Classical.byContradiction fun hc=>HRP.out ((xG (by simpa using hc)).symm.trans (HC1.out.trans h5))
     ·exact wB HC1.out (by unfold ei;rw[if_neg h1,if_neg h5,if_neg h2,if_neg h3,if_neg h4])
    clear h1 h2 h3 h4;refine zS_ ?_;clear H;intro u43 H
    exact⟨((net,s),fa),AN,cN,cssN,FN,HLN.out,rfl,(H.x 2),H.O⟩
end
section
attribute [local go_sem] af ah ae
theorem Dt {α:Type} (E:Elt α) {w0 w:World} {L:List Ow} {T:TypeId} {g:Nat} (H:Hq w0 (qB g T []::L) w):Hq w0 (qX E w0.heap.size T (some ⟨g,0,none⟩) 0 0 [] [] []::L) w:=by
 have hb:=H.B _ (List.mem_cons_self ..) g rfl;have P:OX E w w0.heap.size T (some ⟨g,0,none⟩) 0 0 [] [] []:=⟨⟨by simp,.inr ⟨g,0,#[],rfl,hb,H.S.1,Nat.le_refl _,by unfold maxLen;omega,by simp,by simp⟩⟩,rfl,rfl,Fr.nil _ _,fun _ _ h=>by cases h⟩
 have hi0:∀ i,(qX E w0.heap.size T (some ⟨g,0,none⟩) 0 0 [] [] []).F i->(qB g T []).F i:=fun i hi=>hi.elim (fun e=>(Option.some.inj e).symm) (fun e=>by cases e)
 refine⟨⟨P,fun i hi e he hei=>H.S.2.1 i (hi0 i hi) e he hei,H.S.2.2⟩,fun d hd i hi=>?_,H.O⟩
 rcases List.mem_cons.1 hd with rfl|hd
 ·exact H.B _ (List.mem_cons_self ..) i (hi0 i hi)
 ·exact H.B d (List.mem_cons_of_mem _ hd) i hi
def RnS (w:World) (e:Ending) (w':World):Prop:=∃ B,e= .returned (.tuple #[.agg #[.slice none 0 0,.int .i64 0],.slice B 0 0])/\Below w.heap.size w w'
theorem CR {net:List SL} {s:Int} {n:Nat} (hv:svB (net,s)=false\/20<n) (hss:svS (net,s)) {A B:Option Addr} {cap cB:Nat} {F:List Nat} (w:World) (hx:RI (kE smE) w A net.length cap net F) :
  Calls prog 23 #[.agg #[.slice A net.length cap,.int .i64 s],.slice B n cB] w (RnS w):=by
 have HSS:=Qh hss;have HX:=Qh hx;clear hss hx
 cases hs:svB (net,s)
 ·have HSV:=Qh hs;clear hv hs;refine zE ?_;intro u1 H;refine zI (iT HSS.out u1 (HX.out.below H.O)) ?_;clear H;intro w2 AO cO FO u2 H;refine zG (iS u2 [.slice AO net.length cO,.int .i64 s] (net,s) FO ⟨AO,cO,rfl,(H.f 1).1⟩ HSS.out) ?_;rintro e w3 ⟨rfl,hb⟩;replace H:=H.b hb;rw[HSV.out];clear hb;refine zS_ ?_;clear H;intro u4 H
  exact⟨_,rfl,H.O⟩
 ·have HSV:=Qh hs;have h20:(20:Int)<(n:Int):=by rcases hv with h|h;rw[hs] at h;cases h;omega
  clear hv hs;refine zE ?_;intro u1 H;refine zI (iT HSS.out u1 (HX.out.below H.O)) ?_;clear H;intro w2 AO cO FO u2 H;refine zG (iS u2 [.slice AO net.length cO,.int .i64 s] (net,s) FO ⟨AO,cO,rfl,(H.f 1).1⟩ HSS.out) ?_;rintro e w3 ⟨rfl,hb⟩;replace H:=H.b hb;rw[HSV.out];clear hb;refine zS_ ?_;clear H;intro u4 H
  exact⟨_,rfl,H.O⟩
theorem C_ {net:List SL} {s:Int} (h:jO net s) {ls:List (List UInt8)} {n:Nat} (hn:n<=20) (hl:∀ l,l∈ls->l.length<=1048576) {A B:Option Addr} {cap cB:Nat} {F FB:List Nat} (w:World) (hx:RI (kE smE) w A net.length cap net F) (hls:RI txE w B n cB ls FB) :
  Calls prog 23 #[.agg #[.slice A net.length cap,.int .i64 s],.slice B n cB] w (RnP net s ls w):=by
 have h20:(n:Int)<=20:=by omega
 have HSV:Hid (svB (net,s)=true):=by unfold Hid svB;rw[h.1,h.2];rfl
 have HSS:Hid (svS (net,s)):=mg h.1;have HS:=Qh h;have HLN:=Qh hls.1;have HLS:=Qh hl;have HLX:=Qh hls;have HX:=Qh hx;clear h hl hx hls;refine zE ?_;intro u1 H;refine zI (iT HSS.out u1 (HX.out.below H.O)) ?_;clear H;intro w2 AO cO FO u2 H;replace H:=Dt txE H;obtain⟨go,hgo⟩:∃ g,g=w2.heap.size:=⟨_,rfl⟩;rw[<-hgo] at H ⊢;clear hgo;refine zG (iS u2 [.slice AO net.length cO,.int .i64 s] (net,s) FO ⟨AO,cO,rfl,(H.f 1).1⟩ HSS.out) ?_;rintro e w3 ⟨rfl,hb⟩;replace H:=H.b hb;rw[HSV.out];clear hb;refine zN ?_;clear H;intro u4 H;refine zG (ou HS.out.1 u4 (H.f 1).1) ?_;rintro e w5 ⟨AN,cN,cssN,FN,rfl,hox,hb⟩;replace H:=H.ox hb hox;clear hox hb;replace H:=H.d 2;refine zN ?_;clear H;intro u6 H;replace H:=(((((H.r 4).r 4).r 2).r 3).r 4);obtain⟨gY,hgY⟩:∃ g,g=w5.heap.size:=⟨_,rfl⟩;rw[<-hgY] at H ⊢;clear hgY;intros
 go_loopw [8,6] (fun i vo wr=>∃ (k:Nat) (yq:Rns) (AN:Option Addr) (cN:Nat) (cssN:List (List Value)) (FN:List Nat) (AU:Option Addr) (cU:Nat) (dss:List (List Value)) (G:List Nat),k<=n/\i= .int .i64 k/\vo= .slice AU k cU/\Hid (rnF net s (ls.take k)=yq/\jO yq.1.1 yq.1.2)/\Hid (Hq w [qX txE w.heap.size 9 AU k cU dss yq.2 G,qX (kE smE) w.heap.size 99 AN yq.1.1.length cN cssN yq.1.1 FN,qB gY 25 [.slice AN yq.1.1.length cN,.int .i64 yq.1.2],qB (w.heap.size+1) 25 [.slice none 0 0,.int .i64 0],qB w.heap.size 25 [.slice AO net.length cO,.int .i64 s]] wr)) (fun i _ _=>n-(intOf i).toNat)
 case atStart=>exact⟨0,((net,s),[]),_,_,_,_,_,_,_,_,Nat.zero_le _,rfl,rfl,⟨rfl,HS.out⟩,H⟩
 case round =>
 clear H;obtain⟨k,yq,AN,cN,cssN,FN,AU,cU,dss,G,hk,rfl,rfl,HQ,H⟩:=hrel;have H:=H.out
 by_cases hlt:k<n
 ·obtain⟨l,hl,hmem⟩:=aH (xs:=ls) (j:=k) (by rw[HLN.out];exact hlt)
  have HLI:=Qh hl;have HLL:=Qh (HLS.out l hmem);obtain⟨b,off,cs,F8,rfl,hb9,hc9,_,hcs⟩:=HLX.out.cells hl 1 rfl;obtain⟨rfl,-⟩:=hcs;have hcw:w.cell? ⟨b,off+k,none⟩=some (.string (bs l)):=by have:=hc9 0 (by omega);simpa using this
  have k0:(0:Int)<=(k:Int):=by omega
  have k1:(k:Int)<(n:Int):=by omega
  clear hl hmem hc9;refine zN ?_;clear H;intro u21 H;have ez:=Nat.lt_of_lt_of_le hb9 H.m;have E:=H.el;refine zXF (tgF [gY,b] 9 9 (.cells #[.slice none 0 0,.int .i64 0] 25)) ?_;clear H;intro S w22 hne H;refine zD (H.c 2) ?_;intro G;have rx:=H.row ((H.O.cell (p:=⟨b,off+k,none⟩) hb9).trans hcw);intros;refine f_ (fun w23 (hb:Bw w22 w23)=>mL HQ.out.2 HLL.out w23 (OX.rf ((H.b hb).x 1)).choose_spec.1) ?_;clear H
  rintro w23 K hK H e w24 ⟨r,A5,c5,css5,F5,hL,rfl,hox,hb⟩;replace H:=H.ox hb hox;have HL5:=Qh hL;clear hL hox;refine fK ?_;clear hK K hb;refine yGv ?_;clear H;intro w25 g25 hg25 H;refine yS ?_;clear H;intro w26 H;intros
  repeat (first|(refine lc' ?_;intro K hK;go_big_quiet_op;go_big_quiet_on)|refine lk' ?_)
  refine aI ?_;replace H:=H.H;clear G;replace H:=H.d 3;refine zC ?_;intro C;intros
  go_wp2_with (at_builtin;refine zM ?_)
  clear H C;intro u28 H;replace H:=(H.r 3);have hk2:k<=20:=by omega
  refine zAx (an4 yJ (show txE.P u28 [.string (bs r.2)] r.2 [] from⟨rfl,rfl⟩) (Fr.nil u28 w.heap.size) (fun i hi=>by cases hi)) ?_;clear H;intro g1 c1 w40 H
  replace H:=(H.d 1);refine zC ?_;intro C;intros;go_wp2
  go_roundw
  case rel=>exact⟨k+1,(r.1,yq.2++[r.2]),A5,c5,css5,F5,some ⟨g1,0,none⟩,c1,_,_,by omega,by go_num,rfl,⟨Dh HQ.out.1 HLI.out HL5.out,HL5.out.ok HQ.out.2⟩,H⟩
  case measure=>simp[intOf];omega
 ·obtain rfl:k=n:=by omega
  have hal:ls.take k=ls:=List.take_of_length_le (by rw[HLN.out];exact Nat.le_refl _)
  have HRN:Hid (rnF net s ls=yq):=by have h:=HQ.out.1;rwa [hal] at h
  have hql:yq.2.length=k:=by rw[<-HRN.out,CW,HLN.out]
  clear hal;subst hql;refine zS_ ?_;clear H;intro u61 H
  exact⟨yq,AN,cN,cssN,FN,AU,cU,dss,G,HRN.out,HQ.out.2,rfl,(H.x 1),(H.x 0),Sp.apart (i:=1) (j:=0) H.S rfl rfl (by decide),H.O⟩
end
section
attribute [local go_sem] af ah ae
def Lx (x:List SL×Int) (l:List UInt8) (r:Res):Prop:=if svB x=true then LnR x.1 x.2 l r else r=(([],0),[])
theorem Lx.one {x:List SL×Int} {l:List UInt8} {a b:Res} (h:Lx x l a) (k:Lx x l b):a=b:=by
 unfold Lx at h k
 split at h
 ·rename_i e
  rw[if_pos e] at k
  exact h.one k
 ·rename_i e
  rw[if_neg e] at k;rw[h,k]
theorem xm {x:List SL×Int} (h:svB x=true):jO x.1 x.2:=by
 unfold svB at h
 simpa [jO,Bool.and_eq_true] using h
theorem Lx.nk {x:List SL×Int} {l:List UInt8} {r:Res} (h:Lx x l r):bu r.1.1=true\/r.1.1=[]:=by
 unfold Lx at h
 split at h
 ·rename_i e
  exact .inl (h.ok (xm e)).1
 ·exact .inr (by rw[h])
theorem Lx.sv {x:List SL×Int} {l:List UInt8} {r:Res} (h:Lx x l r):svS r.1:=by
 rcases h.nk with h|h
 ·exact mg h
 ·exact⟨by rw[h];simp,fun l hl=>by rw[h] at hl;cases hl⟩
theorem Lx.ct {x:List SL×Int} {l:List UInt8} {r:Res} (h:Lx x l r):ctA ctL r.1.1<=1000:=by
 rcases h.nk with h|h
 ·obtain⟨h1,h2⟩:=du h;refine Nat.le_trans (tQ (a:=4) (b:=3) (d:=25) h1 fun l hl=>⟨kU (h2 l hl),fun p hp=>?_⟩) (by decide)
  have:=fs (mW (h2 l hl) p hp)
  exact⟨by omega,by omega⟩
 ·rw[h];decide
theorem svS.ct {x:List SL×Int} (h:svS x):1+ctA ctL x.1<=4611686018427387904:=by
 have:=tQ (net:=x.1) (a:=1048576) (b:=1048576) (d:=1048576) h.1 fun l hl=>h.2 l hl
 omega
def LxP (x:List SL×Int) (l:List UInt8) (w:World) (e:Ending) (w':World):Prop:=∃ (r:Res) (A:Option Addr) (c:Nat) (F:List Nat),Lx x l r/\e= .returned (.tuple #[.agg #[.slice A r.1.1.length c,.int .i64 r.1.2],.string (bs r.2)])/\RI (kE smE) w' A r.1.1.length c r.1.1 F/\Fr w' w.heap.size F/\Below w.heap.size w w'
theorem LxP.bad {x:List SL×Int} {l:List UInt8} {w:World} {e:Ending} {w':World} (hv:svB x=false) (h:LnN w e w'):LxP x l w e w':=⟨(([],0),[]),none,0,[],by unfold Lx;rw[hv];rfl,h.1,RI.nil _ _ (by unfold maxLen;omega),Fr.nil _ _,h.2⟩
theorem LxP.yes {x:List SL×Int} {l:List UInt8} {w:World} {e:Ending} {w':World} (hv:svB x=true) (h:LnP x.1 x.2 l w e w'):LxP x l w e w':=by
 obtain⟨r,A,c,css,F,hr,he,hox,hb⟩:=h;obtain⟨F',ri,fr⟩:=hox.ri
 exact⟨r,A,c,F',by unfold Lx;rw[if_pos hv];exact hr,he,ri,fr,hb⟩
end
section
attribute [local go_sem] af ah ae
noncomputable def Rx (x:List SL×Int) (ls:List (List UInt8)):Rns:=if svB x=true/\ls.length<=20 then rnF x.1 x.2 ls else (([],0),[])
structure Dj (zq:Rns):Prop where
 sv:svS zq.1
 ct:ctA ctL zq.1.1<=1000
 ln:zq.2.length<=20
theorem Dj.no:Dj (([],0),[]):=⟨⟨by simp,fun l hl=>by cases hl⟩,by decide,by decide⟩
theorem Dj.of {zq:Rns} (h:jO zq.1.1 zq.1.2) (hl:zq.2.length<=20):Dj zq:=by
 obtain⟨h1,h2⟩:=du h.1;refine⟨mg h.1,?_,hl⟩;refine Nat.le_trans (tQ (a:=4) (b:=3) (d:=25) h1 fun l hl=>⟨kU (h2 l hl),fun p hp=>?_⟩) (by decide)
 have:=fs (mW (h2 l hl) p hp)
 exact⟨by omega,by omega⟩
def RxP (x:List SL×Int) (ls:List (List UInt8)) (w:World) (e:Ending) (w':World):Prop:=∃ (zq:Rns) (A:Option Addr) (c:Nat) (F:List Nat) (B:Option Addr) (d:Nat) (G:List Nat),Rx x ls=zq/\Dj zq/\e= .returned (.tuple #[.agg #[.slice A zq.1.1.length c,.int .i64 zq.1.2],.slice B zq.2.length d])/\RI (kE smE) w' A zq.1.1.length c zq.1.1 F/\Fr w' w.heap.size F/\RI txE w' B zq.2.length d zq.2 G/\Fr w' w.heap.size G/\(∀ g,g∈F->¬g∈G)/\Below w.heap.size w w'
theorem RxP.bad {x:List SL×Int} {ls:List (List UInt8)} {w:World} {e:Ending} {w':World} (hv:svB x=false\/20<ls.length) {B:Option Addr} (h:e= .returned (.tuple #[.agg #[.slice none 0 0,.int .i64 0],.slice B 0 0])/\Below w.heap.size w w'):RxP x ls w e w':=by
 refine⟨(([],0),[]),none,0,[],B,0,[],?_,Dj.no,h.1,RI.nil _ _ (by unfold maxLen;omega),Fr.nil _ _,RI.nil _ _ (by unfold maxLen;omega),Fr.nil _ _,fun g hg=>(by cases hg),h.2⟩
 unfold Rx;rw[if_neg];rintro⟨h1,h2⟩;rcases hv with h|h
 ·rw[h] at h1;cases h1
 ·omega
theorem RxP.yes {x:List SL×Int} {ls:List (List UInt8)} {w:World} {e:Ending} {w':World} (hv:svB x=true) (hl:ls.length<=20) (h:RnP x.1 x.2 ls w e w'):RxP x ls w e w':=by
 obtain⟨zq,A,c,css,F,B,d,dss,G,hr,hok,he,h1,h2,ha,hb⟩:=h;obtain⟨F',ri,fr,hF⟩:=h1.rf;obtain⟨G',rj,gr,hG⟩:=h2.rf
 exact⟨zq,A,c,F',B,d,G',by unfold Rx;rw[if_pos ⟨hv,hl⟩,hr],Dj.of hok (by rw[<-hr,CW];exact hl),he,ri,fr,rj,gr,fun g hg hg'=>ha g (hF g hg) (hG g hg'),hb⟩
theorem Du {x:List SL×Int} (hs:svS x) {ls:List (List UInt8)} {n:Nat} (hl:∀ l,l∈ls->l.length<=1048576) {A B:Option Addr} {cap cB:Nat} {F FB:List Nat} (w:World) (ht:Tab w) (hm:iD w) (hx:RI (kE smE) w A x.1.length cap x.1 F) (hls:RI txE w B n cB ls FB) :
  Calls prog 25 #[.agg #[.slice A x.1.length cap,.int .i64 x.2],.slice B n cB] w (RxP x ls w):=by
 obtain rfl:=hls.1;rcases Nat.lt_or_ge 20 ls.length with h20|h20
 ·exact(CO (net:=x.1) (s:=x.2) (.inr h20) hs w hx).mono fun e w' h=>RxP.bad (.inr h20) h
 ·cases hv:svB x
  ·exact(CO (net:=x.1) (s:=x.2) (.inl hv) hs w hx).mono fun e w' h=>RxP.bad (.inl hv) h
  ·exact(CX (xm hv) h20 hl w ht hm hx hls).mono fun e w' h=>RxP.yes hv h20 h
theorem Dz {x:List SL×Int} (hs:svS x) {ls:List (List UInt8)} {n:Nat} (hl:∀ l,l∈ls->l.length<=1048576) {A B:Option Addr} {cap cB:Nat} {F FB:List Nat} (w:World) (hx:RI (kE smE) w A x.1.length cap x.1 F) (hls:RI txE w B n cB ls FB) :
  Calls prog 23 #[.agg #[.slice A x.1.length cap,.int .i64 x.2],.slice B n cB] w (RxP x ls w):=by
 obtain rfl:=hls.1;rcases Nat.lt_or_ge 20 ls.length with h20|h20
 ·exact(CR (net:=x.1) (s:=x.2) (.inr h20) hs w hx).mono fun e w' ⟨B,h⟩=>RxP.bad (.inr h20) h
 ·cases hv:svB x
  ·exact(CR (net:=x.1) (s:=x.2) (.inl hv) hs w hx).mono fun e w' ⟨B,h⟩=>RxP.bad (.inl hv) h
  ·exact(C_ (xm hv) h20 hl w hx hls).mono fun e w' h=>RxP.yes hv h20 h
theorem Hq.rr {α β:Type} {E:Elt α} {E2:Elt β} {w0 w w':World} {L:List Ow} {A B:Option Addr} {n c m d:Nat} {xs:List α} {ys:List β} {F G:List Nat} (H:Hq w0 L w) (hb:Below w.heap.size w w') (f:RI E w' A n c xs F) (k:Fr w' w.heap.size F) (f2:RI E2 w' B m d ys G) (k2:Fr w' w.heap.size G) (ap:∀ g,g∈F->¬g∈G):Hq w0 (qR E w0.heap.size A n c xs F::qR E2 w0.heap.size B m d ys G::L) w':=by
 have K:=H.rf hb f2 k2;refine⟨⟨⟨f,k.mono H.m⟩,fun i hi e he hei=>?_,K.S⟩,fun e he i hi=>?_,K.O⟩
 ·rcases List.mem_cons.1 he with rfl|he
  ·exact ap i hi hei
  ·have:=H.S.lt e he i hei;have:=(k.2 i hi).1
   omega
 ·rcases List.mem_cons.1 he with rfl|he
  ·exact Nat.le_trans H.m (k.2 i hi).1
  ·exact K.B e he i hi
end
end Go.Proofs.YtjciicheoghcdaaGreatDoor
