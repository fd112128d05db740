/- Part of the proof that the law FnServiceLine of the given program returns true for every input. -/
import Derived.Lib.Split
import Derived.Test.YtjciicheoghcdaaGreatDoorXF
import Derived.Test.YtjciicheoghcdaaGreatDoorXf
namespace Go.Proofs.YtjciicheoghcdaaGreatDoor
open Go.RowKit
set_option linter.unusedSimpArgs false
set_option linter.unusedVariables false
set_option maxRecDepth 20000
set_option maxHeartbeats 16000000
theorem Db (l p:List UInt8) (w:World):Calls Tryz.prog 178 #[.string (bs l),.string (bs p)] w fun e w'=>e= .returned (.tuple #[.string (bs (Lib.trimPrefix l p)),.bool (Lib.hasPrefix l p)])/\w=w':=by
 refine (Tryz.strings_CutPrefix (bs l) (bs p) w).mono ?_;rintro e w' ⟨rfl,rfl⟩
 exact ⟨rfl,rfl⟩
theorem yY (l p:List UInt8) (w:World) (hl:l.length<=1048576) (hm:iD w):Calls Tryz.prog 34 #[.string (bs l),.string (bs p)] w fun e w'=>e= .returned (.tuple #[.string (bs (Lib.cut l p).1),.string (bs (Lib.cut l p).2.1),.bool (Lib.cut l p).2.2])/\Below w.heap.size w w':=by
 obtain ⟨m,hm⟩:=hm;refine (Tryz.strings_Cut (bs l) (bs p) m w (by rw [aK];omega) hm).mono ?_
 rintro e w' ⟨rfl,n,rfl⟩
 exact ⟨rfl,below_drewN (Below.refl _ _) n⟩
theorem jY (l:List UInt8) {s:ByteArray} (hs:s=bs l) (k:Nat) (h:k<s.size):∃ h2:k<l.length,l[k]=s[k]:=by
 subst hs
 exact byte_at (bs l) k h
theorem xJ {l:List UInt8} {k:Nat} (h:k<l.length) (hb:isD l[k]=false):dOf l=(0,false):=by
 unfold dOf;rw [if_neg];intro e;rw [List.all_eq_true] at e;rw [e _ (List.getElem_mem h)] at hb
 cases hb
theorem Ae {l:List UInt8} (h:l.all isD=true):dOf l=(vl l,decide (l≠[])):=if_pos h
theorem uC {l:List UInt8} {k:Nat} (h:k<l.length) (ha:(l.take k).all isD=true) (hb:isD l[k]=true):(l.take (k+1)).all isD=true/\vl (l.take (k+1))=vl (l.take k)*10+((l[k].toNat:Int)-48):=by
 rw [List.take_succ_eq_append_getElem h]
 exact ⟨by rw [List.all_append,ha,List.all_cons,hb];rfl,qP _ _⟩
theorem jS {l:List UInt8} {k:Nat} (hk:k<=l.length) (h8:k<=8) (ha:(l.take k).all isD=true):0<=vl (l.take k)/\vl (l.take k)<=99999999:=by
 have h:=Ci (l.take k) ha k (by rw [List.length_take];omega)
 rw [List.take_take,Nat.min_self] at h;refine ⟨h.1,Int.le_trans h.2 ?_⟩;have h2:(10:Int) ^ k<=10 ^ 8:=by
  have:=Nat.pow_le_pow_right (show 0<10 by omega) h8
  exact_mod_cast this
 have h3:(10:Int) ^ 8=100000000:=by decide
 omega
theorem rJ {b:UInt8} (h:¬ (48<=b.toNat/\b.toNat<=57)):isD b=false:=decide_eq_false h
theorem rK {b:UInt8} (h:48<=b.toNat/\b.toNat<=57):isD b=true:=decide_eq_true h
theorem ti {a b:Int} {c d:Bool} (h:a=b) (h2:c=d):Ending.returned (.tuple #[.int .i64 a,.bool c])= .returned (.tuple #[.int .i64 b,.bool d]):=by rw [h,h2]
theorem DJ (l:List UInt8) (hl:l.length<=8) (w:World):Calls Tryz.prog 179 #[.string (bs l)] w fun e w'=>e= .returned (.tuple #[.int .i64 (dOf l).1,.bool (dOf l).2])/\w=w':=by
 obtain ⟨s,hs⟩:∃ s,s=bs l:=⟨_,rfl⟩;rw [<- hs];have hss:s.size=l.length:=by rw [hs,aK]
 have HS:=Lib.hid hs;have HL:=Lib.hid hl
 by_cases h0:l=[]
 ·have hz:s.toList.isEmpty=true:=by rw [mm];exact (jo _ _).2 (by rw [hs,h0];rfl)
  have hz2:s.size=0:=by rw [hss,h0];rfl
  have e1:dOf l=(0,false):=by rw [h0];rfl
  rw [e1];clear hs hss h0 e1 hl
  go_enter Tryz.func179,Tryz.ntmps179
  go_wp2;refine wp_loop_rounds 1 ?_;rw [rounds_succ];go_wp2
  go_ret2
  exact ⟨rfl,rfl⟩
 have hz:s.toList.isEmpty=false:=by rw [mm];exact iE (fun e=>h0 (gU (by rw [<- hs];exact e)))
 have HSS:=Lib.hid hss;have H0:=Lib.hid h0;clear hs hss hl h0
 go_enter Tryz.func179,Tryz.ntmps179
 go_wp2
 go_loop [4,8] (fun q i=>∃ (k:Nat) (n:Int),k<=s.size/\i= .int .i64 k/\q= .int .i64 n/\0<=n/\n<=99999999/\Hid ((l.take k).all isD=true/\n=vl (l.take k))) (fun _ i=>s.size-(intOf i).toNat)
 case atStart=>exact ⟨0,0,Nat.zero_le _,rfl,rfl,by omega,by omega,rfl,rfl⟩
 case round =>
  obtain ⟨k,n,hk,rfl,rfl,n0,n1,hn⟩:=hrel
  by_cases hlt:k<s.size
  ·obtain ⟨hkl,hbk⟩:=jY l HS.out k hlt;have hk64:(s.size:Int)<=9223372036854775807:=by have:=HSS.out;have:=HL.out;omega
   have hk0:(0:Int)<=(k:Int):=by omega
   obtain ⟨y,hy⟩:∃ y:Int,(s[k].toNat:Int)=y:=⟨_,rfl⟩;have hyl:(l[k].toNat:Int)=y:=by rw [hbk];exact hy
   have HY:=Lib.hid hyl;clear hyl hbk
   by_cases hd:48<=y/\y<=57
   ·obtain ⟨d0,d1⟩:=hd;have hst:=uC hkl hn.out.1 (rK (by have:=HY.out;omega))
    rw [HY.out,<- hn.out.2] at hst;have hbd:=jS (l:=l) (k:=k+1) (by omega) (by have:=HL.out;omega) hst.1
    rw [hst.2] at hbd;obtain ⟨b0,b1⟩:=hbd;have HST:=Lib.hid hst;have p1:=IntWalk.i64_in (n*10) (by omega)
    have p2:=IntWalk.i64_in (n*10+(y-48)) (by omega)
    clear hst hn;go_wp2
    go_round
    case rel=>exact ⟨k+1,n*10+(y-48),by omega,by go_num,by go_num,by omega,by omega,HST.out.1,HST.out.2.symm⟩
    case measure=>simp [intOf];omega
   ·have HF:Hid (dOf l=(0,false)):=xJ hkl (rJ (by have:=HY.out;omega))
    clear hn
    by_cases hd1:y<48
    ·clear hd;go_wp2
     go_ret2
     exact ⟨ti (by rw [HF.out]) (by rw [HF.out]),rfl⟩
    ·have hd2:57<y:=by omega
     clear hd;go_wp2
     go_ret2
     exact ⟨ti (by rw [HF.out]) (by rw [HF.out]),rfl⟩
  ·obtain rfl:k=s.size:=by omega
   have HF:Hid (dOf l=(n,true)):=by
    obtain ⟨h1,h2⟩:=hn.out;rw [HSS.out,List.take_length] at h1 h2
    show _=_
    rw [Ae h1,h2]
    simp [H0.out]
   clear hn;go_wp2
   go_ret2
   exact ⟨ti (by rw [HF.out]) (by rw [HF.out]),rfl⟩
theorem fo {l:List (List UInt8)} (h:l≠[]) (x sep:List UInt8):Lib.join (l++[x]) sep=Lib.join l sep++sep++x:=by
 cases l with
 | nil=>exact absurd rfl h
 | cons a l=>simp [Lib.join_cons,Lib.joinTail]
def rt (v:List Int) (c k:Nat):List UInt8:=Lib.join (((v.drop (k*c)).take c).map fx) [32]
def mtx (v:List Int) (r c:Nat):List UInt8:=Lib.join ((List.range r).map (rt v c)) [59,32]
def mt (m:Mx):List UInt8:=if mvB m=true then mtx m.v m.r.toNat m.c.toNat else []
def st (v:List Int) (c:Nat):Nat->List UInt8
 | 0=>[]
 | k+1=>st v c k++(if k=0 then [] else if k%c=0 then [59,32] else [32])++fx (v.getD k 0)
theorem tF (v:List Int) (a j:Nat) (h:a+j<v.length):(v.drop a).take (j+1)=(v.drop a).take j++[v.getD (a+j) 0]:=by
 have h2:j<(v.drop a).length:=by rw [List.length_drop];omega
 rw [List.take_succ_eq_append_getElem h2,List.getD_eq_getElem?_getD,List.getElem?_eq_getElem h]
 simp
theorem Cd (v:List Int) (c k:Nat) (hc:0<c) (hl:k*c+c<=v.length):∀ j,1<=j->j<=c->st v c (k*c+j)=st v c (k*c)++(if k=0 then [] else [59,32])++Lib.join (((v.drop (k*c)).take j).map fx) [32]:=by
 intro j
 induction j with
 | zero=>intro h;omega
 | succ j ih =>
  intro _ hj;have e:k*c+(j+1)=(k*c+j)+1:=by omega
  rw [e,st,tF v (k*c) j (by omega),List.map_append]
  by_cases hj0:j=0
  ·subst hj0;simp only [Nat.add_zero,List.take_zero,List.map_nil,List.nil_append,List.map_cons,Lib.join_one,Nat.mul_mod_left]
   by_cases hk:k=0
   ·subst hk;simp
   ·have:k*c≠0:=Nat.mul_ne_zero hk (by omega)
    rw [if_neg this,if_neg hk]
    simp
  ·have hne:((v.drop (k*c)).take j).map fx≠[]:=by
    intro h;have:=congrArg List.length h;rw [List.length_map,List.length_take,List.length_drop,List.length_nil] at this
    omega
   have hmod:(k*c+j)%c=j:=by rw [Nat.add_comm,Nat.add_mul_mod_self_right];exact Nat.mod_eq_of_lt (by omega)
   rw [ih (by omega) (by omega),hmod,if_neg (show ¬ k*c+j=0 by omega),if_neg hj0,List.map_cons,List.map_nil,fo hne]
   simp [List.append_assoc]
theorem uz (v:List Int) (c:Nat) (hc:0<c):∀ r,r*c<=v.length->st v c (r*c)=mtx v r c:=by
 intro r
 induction r with
 | zero=>intro _;rw [Nat.zero_mul];rfl
 | succ r ih =>
  intro h;have e:(r+1)*c=r*c+c:=Nat.succ_mul r c;rw [e] at h;rw [e,Cd v c r hc h c hc (Nat.le_refl _),ih (by omega)]
  unfold mtx;rw [List.range_succ,List.map_append]
  by_cases hr:r=0
  ·subst hr
   simp [Lib.join,List.intercalate,rt]
  ·have hne:(List.range r).map (rt v c)≠[]:=by
    intro h;have:=congrArg List.length h
    simp at this
    omega
   rw [if_neg hr,List.map_cons,List.map_nil,fo hne]
   rfl
theorem Bg (v:List Int) (c:Nat):∀ k,(st v c k).length<=k*303:=by
 intro k
 induction k with
 | zero=>simp [st]
 | succ k ih =>
  have h:=sU (v.getD k 0);rw [st,List.length_append,List.length_append];have h2:(if k=0 then ([]:List UInt8) else if k%c=0 then [59,32] else [32]).length<=2:=by
   split
   ·simp
   ·split <;> simp
  omega
theorem s_ {m:Mx} (h:mvB m=false):mt m=[]:=if_neg (by rw [h];decide)
theorem er {m:Mx} (h:mvB m=true):∃ R C:Nat,m.r=(R:Int)/\m.c=(C:Int)/\1<=R/\R<=5/\1<=C/\C<=5/\m.v.length=R*C/\R*C<=25/\m.v.all rv=true:=by
 unfold mvB at h;simp only [Bool.and_eq_true,decide_eq_true_eq] at h;obtain ⟨h1,h2,h3,h4⟩:=h;obtain ⟨a1,a2⟩:=bI h1;obtain ⟨b1,b2⟩:=bI h2;refine ⟨m.r.toNat,m.c.toNat,by omega,by omega,by omega,by omega,by omega,by omega,?_,?_,h4⟩
 ·have:(m.v.length:Int)=((m.r.toNat*m.c.toNat:Nat):Int):=by
   rw [h3]
   push_cast
   rw [Int.toNat_of_nonneg (by omega),Int.toNat_of_nonneg (by omega)]
  exact_mod_cast this
 ·exact Nat.mul_le_mul (show m.r.toNat<=5 by omega) (show m.c.toNat<=5 by omega)
theorem l_ {m:Mx} {R C:Nat} (h:mvB m=true) (hr:m.r=(R:Int)) (hc:m.c=(C:Int)):mt m=mtx m.v R C:=by
 unfold mt;rw [if_pos h,hr,hc]
 simp
theorem sQ {v:List Int} (h:v.all rv=true) {k:Nat} (hk:k<v.length):0<=v.getD k 0/\v.getD k 0<=4095:=by
 rw [List.all_eq_true] at h;have h2:=h _ (j7 hk)
 exact kJ h2
theorem ie {l sep:List UInt8} (h:Lib.index l sep= -1):Lib.split l sep=[l]:=by
 unfold Lib.split;rw [Lib.count_miss h]
 rfl
theorem lQ {l sep:List UInt8} {i:Nat} (hs:sep≠[]) (h:Lib.index l sep=i):Lib.split l sep=l.take i::Lib.split (l.drop (i+sep.length)) sep:=by
 unfold Lib.split;rw [Lib.count_hit hs h,Nat.add_comm,Lib.splitK,if_neg (by rw [h];simp),h]
 simp
theorem lR (sep:List UInt8) (hs:sep≠[]):∀ (n:Nat) (l:List UInt8),l.length<n->(Lib.split l sep).length=Lib.count l sep+1:=by
 intro n
 induction n with
 | zero=>intro l h;omega
 | succ n ih =>
  intro l h;rcases Lib.index_spec l sep with ⟨h1,_⟩ | ⟨i,h1,h2,h3,_⟩
  ·rw [ie h1,Lib.count_miss h1];rfl
  ·have hd:=Lib.drop_shorter hs (s:=l) (by rw [h1];simp)
   rw [h1] at hd;simp only [Int.toNat_natCast] at hd;rw [lQ hs h1,Lib.count_hit hs h1,List.length_cons,ih _ (by omega)]
   omega
theorem xi (l sep:List UInt8):Lib.split l sep≠[]:=by
 unfold Lib.split
 cases Lib.count l sep with
 | zero=>simp [Lib.splitK]
 | succ k=>unfold Lib.splitK;split <;> simp
theorem hU (x:List UInt8) {r:List (List UInt8)} (hr:r≠[]) (sep:List UInt8):Lib.join (x::r) sep=x++sep++Lib.join r sep:=by
 cases r with
 | nil=>exact absurd rfl hr
 | cons y r=>simp [Lib.join_cons,Lib.joinTail,List.append_assoc]
theorem qp {l sep:List UInt8} {i:Nat} (h:Lib.occAt l sep i=true):l=l.take i++sep++l.drop (i+sep.length):=by
 have h1:sep <+: l.drop i:=List.isPrefixOf_iff_prefix.1 h;obtain ⟨r,hr⟩:=h1;have h2:l.drop (i+sep.length)=r:=by
  rw [<- List.drop_drop,<- hr,List.drop_left]
 rw [h2,List.append_assoc,hr,List.take_append_drop]
theorem uc (sep:List UInt8) (hs:sep≠[]):∀ (n:Nat) (l:List UInt8),l.length<n->Lib.join (Lib.split l sep) sep=l:=by
 intro n
 induction n with
 | zero=>intro l h;omega
 | succ n ih =>
  intro l h;rcases Lib.index_spec l sep with ⟨h1,_⟩ | ⟨i,h1,h2,h3,_⟩
  ·rw [ie h1,Lib.join_one]
  ·have hd:=Lib.drop_shorter hs (s:=l) (by rw [h1];simp)
   rw [h1] at hd;simp only [Int.toNat_natCast] at hd;rw [lQ hs h1,hU _ (xi _ _),ih _ (by omega)]
   exact (qp h3).symm
theorem DM {a sr:List UInt8} {c:UInt8} (h:c∉a):Lib.index a (c::sr)= -1:=by
 induction a with
 | nil=>rfl
 | cons b a ih =>
  have hb:b≠c:=fun e=>h (by rw [e];exact List.mem_cons_self ..)
  have hp:List.isPrefixOf (c::sr) (b::a)=false:=by simp [List.isPrefixOf,Ne.symm hb]
  unfold Lib.index;rw [hp,ih (fun e=>h (List.mem_cons_of_mem _ e))]
  rfl
theorem po {a b sr:List UInt8} {c:UInt8} (h:c∉a):Lib.index (a++((c::sr)++b)) (c::sr)=(a.length:Int):=by
 induction a with
 | nil =>
  have hp:List.isPrefixOf (c::sr) (c::(sr++b))=true:=List.isPrefixOf_iff_prefix.2 ⟨b,rfl⟩;simp only [List.nil_append,List.cons_append];unfold Lib.index;rw [hp]
  rfl
 | cons d a ih =>
  have hb:d≠c:=fun e=>h (by rw [e];exact List.mem_cons_self ..)
  have hp:List.isPrefixOf (c::sr) (d::(a++((c::sr)++b)))=false:=by simp [List.isPrefixOf,Ne.symm hb]
  rw [List.cons_append];unfold Lib.index;rw [hp,ih (fun e=>h (List.mem_cons_of_mem _ e))]
  have:(((a.length:Int)) == -1)=false:=by rw [beq_eq_false_iff_ne];omega
  simp [this]
theorem kV {c:UInt8} {sr:List UInt8}:∀ {ls:List (List UInt8)},ls≠[]->(∀ x∈ls,c∉x)->Lib.split (Lib.join ls (c::sr)) (c::sr)=ls:=by
 intro ls
 induction ls with
 | nil=>intro h;exact absurd rfl h
 | cons x ls ih =>
  intro _ hm;have hx:=hm x (List.mem_cons_self ..)
  by_cases hl:ls=[]
  ·subst hl;rw [Lib.join_one,ie (DM hx)]
  ·rw [hU x hl,List.append_assoc,lQ (by simp) (po hx)]
   have e1:(x++(c::sr++Lib.join ls (c::sr))).take x.length=x:=List.take_left;have e2:(x++(c::sr++Lib.join ls (c::sr))).drop (x.length+(c::sr).length)=Lib.join ls (c::sr):=by
    rw [<- List.drop_drop,List.drop_left,List.drop_left]
   rw [e1,e2,ih hl (fun y hy=>hm y (List.mem_cons_of_mem _ hy))]
theorem bX {l sep x:List UInt8} (hs:sep≠[]) (h:x∈Lib.split l sep):x.length<=l.length:=by
 have key:∀ (n:Nat) (l:List UInt8),l.length<n->∀ x∈Lib.split l sep,x.length<=l.length:=by
  intro n
  induction n with
  | zero=>intro l h;omega
  | succ n ih =>
   intro l h x hx;rcases Lib.index_spec l sep with ⟨h1,_⟩ | ⟨i,h1,h2,h3,_⟩
   ·rw [ie h1] at hx;have:x=l:=by simpa using hx
    rw [this]
    exact Nat.le_refl _
   ·have hd:=Lib.drop_shorter hs (s:=l) (by rw [h1];simp)
    rw [h1] at hd;simp only [Int.toNat_natCast] at hd;rw [lQ hs h1] at hx;rcases List.mem_cons.1 hx with rfl | hx
    ·rw [List.length_take];omega
    ·have:=ih _ (by omega) x hx
     omega
 exact key _ l (Nat.lt_succ_self _) x h
def Spl (l sep:List UInt8) (w:World) (e:Ending) (w':World):Prop:=e= .returned (.slice (some ⟨w.heap.size,0,none⟩) (Lib.split l sep).length (Lib.split l sep).length)/\VO w' w.heap.size 9 1 (some ⟨w.heap.size,0,none⟩) (Lib.split l sep).length (Lib.split l sep).length (strs (Lib.split l sep))/\Below w.heap.size w w'
theorem pU (l sep:List UInt8) (hs:sep≠[]) (hl:l.length<=1048577) (w:World) (hm:iD w):Calls Tryz.prog 83 #[.string (bs l),.string (bs sep)] w (Spl l sep w):=by
 obtain ⟨m,hm⟩:=hm;refine (Tryz.strings_Split (bs l) (bs sep) m w (by rw [aK];omega) hm (by rw [aK];cases sep;exact absurd rfl hs;simp)).mono ?_
 rintro e w' ⟨rfl,rfl⟩;have hc:Lib.countB (bs l) (bs sep)+1=(Lib.split l sep).length:=(lR sep hs _ l (Nat.lt_succ_self _)).symm;have hv:(Lib.splitB (bs sep) 0 (Lib.countB (bs l) (bs sep)) (bs l)).map Value.string=strs (Lib.split l sep):=by
  have h:=Lib.splitB_data (bs sep) 0 (Lib.countB (bs l) (bs sep)) (bs l);have h2:Lib.split l sep=(Lib.splitB (bs sep) 0 (Lib.countB (bs l) (bs sep)) (bs l)).map (fun x=>x.data.toList):=h.symm
  rw [strs,h2,List.map_map];apply List.map_congr_left
  intro x _
  show Value.string x=Value.string (bs x.data.toList)
  rw [fe]
 refine ⟨by rw [hc],?_,(Below.refl _ _).alloc (Nat.le_refl _) _⟩
 rw [hv];have hle:=Lib.count_le l sep;have h3:=lR sep hs _ l (Nat.lt_succ_self _);refine ⟨by simp [strs],.inr ⟨w.heap.size,_,_,rfl,Nat.le_refl _,Blk.new w 9 _,Nat.le_refl _,by unfold maxLen;omega,by simp [strs],?_⟩⟩
 rw [List.take_of_length_le (by simp [strs])]
def Ms (v:List Int) (C:Nat) (k:Nat) (s:ByteArray):Prop:=s=bs (st v C k)
theorem Ms.size {v:List Int} {C k:Nat} {s:ByteArray} (h:Ms v C k s):s.size<=k*303:=by rw [h,aK];exact Bg v C k
theorem kM (r c:Int) (v:List Int) (A:Option Addr) (n cap:Nat) (w:World) (hx0:SI w A n v) (bn:n<=1048576) :
  Calls Tryz.prog 47 #[MV r c A n cap] w fun e w'=>e= .returned (.string (bs (mt ⟨r,c,v⟩)))/\Below w.heap.size w w':=by
 obtain ⟨u1,hu1⟩:∃ u,u=w.alloc (.cells #[.int .i64 r,.int .i64 c,.slice A n cap] 37):=⟨_,rfl⟩;have B1:Blk u1 w.heap.size 37 #[.int .i64 r,.int .i64 c,.slice A n cap]:=by rw [hu1];exact Blk.new w _ _
 have HO1:Hid (Below w.heap.size w u1):=by rw [hu1];exact (Below.refl _ _).alloc (Nat.le_refl _) _
 have HX0:=Lib.hid hx0;have HX:Hid (SI u1 A n v):=SI.below hx0 HO1.out;have HB:=Lib.hid B1;have hlen:=hx0.1
 by_cases h0:n=0
 ·subst h0;have hbad:Hid (mt ⟨r,c,v⟩=[]):=s_ (by
   cases h:mvB ⟨r,c,v⟩
   ·rfl
   ·obtain ⟨R,C,_,_,a,_,b,_,hl,_⟩:=er h;have:=Nat.mul_pos (show 0<R by omega) (show 0<C by omega)
    dsimp only at hl
    omega)
  have c2:u1.cell? ⟨w.heap.size,2,none⟩=some (.slice A 0 cap):=B1.cell 2;clear B1 hx0 hlen
  go_enter Tryz.func47,Tryz.ntmps47
  go_wp2_with fail
  rw [<- hu1];clear hu1;refine wp_loop_rounds 1 ?_;rw [rounds_succ];go_wp2
  go_ret
  exact ⟨bT (by rw [hbad.out];rfl),HO1.out⟩
 cases hv:mvB ⟨r,c,v⟩
 ·have hbad:Hid (mt ⟨r,c,v⟩=[]):=s_ hv;have c0:u1.cell? ⟨w.heap.size,0,none⟩=some (.int .i64 r):=B1.cell 0;have c1:u1.cell? ⟨w.heap.size,1,none⟩=some (.int .i64 c):=B1.cell 1;have c2:u1.cell? ⟨w.heap.size,2,none⟩=some (.slice A n cap):=B1.cell 2;have i0:(0:Int)<(n:Int):=by omega
  have HV:=Lib.hid hv;clear B1 hx0 hlen hv
  go_enter Tryz.func47,Tryz.ntmps47
  go_wp2_with fail
  rw [<- hu1];clear hu1;refine wp_loop_rounds 1 ?_;rw [rounds_succ]
  go_wp2_with fail
  refine (aM r c v A n cap u1 HX.out (by omega)).mono ?_
  rintro e w1 ⟨rfl,hb1⟩;rw [HV.out];have HB1:=Lib.hid hb1;clear hb1;go_wp2
  go_ret
  exact ⟨bT (by rw [hbad.out];rfl),bp HB1.out HO1.out.size HO1.out⟩
 obtain ⟨R,C,hr,hc,R1,R5,C1,C5,hl,h25,hall⟩:=er hv
 dsimp only at hr hc hl hall
 subst hr hc;have hmt:Hid (mt ⟨(R:Int),(C:Int),v⟩=st v C n):=by
  show _=_
  rw [l_ hv rfl rfl,<- uz v C (by omega) R (by omega)]
  congr 1
  omega
 have HV:=Lib.hid hv;have HALL:=Lib.hid hall;have HL:=Lib.hid hlen;have hC0:((C:Int) == 0)=false:=by simp;omega
 have hCp:(0:Int)<(C:Int):=by omega
 have hn25:n<=25:=by omega
 obtain ⟨b,off,rfl,hb,hcl⟩:=hx0.2 (by omega)
 have HCL:=Lib.hid hcl;have c2:u1.cell? ⟨w.heap.size,2,none⟩=some (.slice (some ⟨b,off,none⟩) n cap):=B1.cell 2;clear B1 hx0 hlen hv hl hall hcl
 go_enter Tryz.func47,Tryz.ntmps47
 go_wp2_with fail
 rw [<- hu1];clear hu1 c2
 go_loopw [3,4] (fun o q wr=>∃ (k:Nat) (s:ByteArray),k<=n/\q= .int .i64 k/\o= .string s/\Hid (Ms v C k s)/\Hid (Blk wr w.heap.size 37 #[.int .i64 (R:Int),.int .i64 (C:Int),.slice (some ⟨b,off,none⟩) n cap])/\Hid (Below w.heap.size w wr)) (fun _ q _=>n-(intOf q).toNat)
 case atStart=>exact ⟨0,_,Nat.zero_le _,rfl,rfl,rfl,HB,HO1⟩
 case round =>
  obtain ⟨k,s,hk,rfl,rfl,hms,hblk,hbel⟩:=hrel;have c0:wr.cell? ⟨w.heap.size,0,none⟩=some (.int .i64 (R:Int)):=hblk.out.cell 0;have c1:wr.cell? ⟨w.heap.size,1,none⟩=some (.int .i64 (C:Int)):=hblk.out.cell 1;have c2:wr.cell? ⟨w.heap.size,2,none⟩=some (.slice (some ⟨b,off,none⟩) n cap):=hblk.out.cell 2
  by_cases hlt:k<n
  ·obtain ⟨x,ex⟩:∃ x,x=v.getD k 0:=⟨_,rfl⟩;have i0:(0:Int)<=(k:Int):=by omega
   have i1:(k:Int)<(n:Int):=by omega
   go_wp2_with fail
   refine (aM (R:Int) (C:Int) v (some ⟨b,off,none⟩) n cap wr (SI.below HX0.out hbel.out) (by omega)).mono ?_
   rintro e w1 ⟨rfl,hb1⟩;rw [HV.out];have hblk1:=Lib.hid (hblk.out.aa hb1);have hbel1:=Lib.hid (bp hb1 hbel.out.size hbel.out);have cx:w1.cell? ⟨b,off+k,none⟩=some (.int .i64 x):=by
    rw [ex,hbel1.out.cell (p:=⟨b,off+k,none⟩) hb]
    exact HCL.out k hlt
   have d1:w1.cell? ⟨w.heap.size,1,none⟩=some (.int .i64 (C:Int)):=hblk1.out.cell 1;have d2:w1.cell? ⟨w.heap.size,2,none⟩=some (.slice (some ⟨b,off,none⟩) n cap):=hblk1.out.cell 2;have hx:=sQ HALL.out (k:=k) (by rw [HL.out];exact hlt)
   rw [<- ex] at hx;have EX:=Lib.hid ex;have hss:s.size<=25*303:=Nat.le_trans hms.out.size (Nat.mul_le_mul_right _ (by omega))
   have hfl:=sU x;clear ex hb1 hblk hbel c0 c1 c2
   by_cases hk0:k=0
   ·subst hk0;rw [Nat.add_zero] at cx
    go_wp2_with fail
    refine (dM x hx w1).mono ?_;rintro e w2 ⟨rfl,hb2⟩;obtain ⟨t,ht⟩:∃ t,t=bs (fx x):=⟨_,rfl⟩;have hts:t.size<=301:=by rw [ht,aK];exact hfl
    rw [<- ht];have HT:=Lib.hid ht;have HB2:=Lib.hid hb2;have ho:=cK (a:=s.size) (b:=t.size) (by omega)
    clear ht hb2 hts hss hfl;go_wp2
    go_roundw
    case rel=>exact ⟨1,_,by omega,by go_num,rfl,by show _=_;rw [hms.out,HT.out,EX.out,bN];rfl,hblk1.out.aa HB2.out,bp HB2.out hbel1.out.size hbel1.out⟩
    case measure=>simp [intOf];omega
   ·have hk1:(0:Int)<(k:Int):=by omega
    by_cases hm:k%C=0
    ·have hm2:(k:Int)%(C:Int)=0:=by exact_mod_cast hm
     have ho0:=cK (a:=s.size) (b:=2) (by omega)
     have e32:ByteArray.size ⟨#[59,32]⟩=2:=rfl;obtain ⟨s2,hs2⟩:∃ t,s++(⟨#[59,32]⟩:ByteArray)=t:=⟨_,rfl⟩;have hs2s:s2.size=s.size+2:=by rw [<- hs2];exact ByteArray.size_append
     go_wp2_with fail
     refine (dM x hx w1).mono ?_;rintro e w2 ⟨rfl,hb2⟩;obtain ⟨t,ht⟩:∃ t,t=bs (fx x):=⟨_,rfl⟩;have hts:t.size<=301:=by rw [ht,aK];exact hfl
     rw [<- ht];have HT:=Lib.hid ht;have HS2:=Lib.hid hs2;have HB2:=Lib.hid hb2;have ho:=cK (a:=s2.size) (b:=t.size) (by omega)
     have HK:=Lib.hid hk0;have HM:=Lib.hid hm;clear ht hb2 hts hss hfl hs2 hs2s ho0 e32 hm2;go_wp2
     go_roundw
     case rel =>
      have e2:(⟨#[59,32]⟩:ByteArray)=bs [59,32]:=rfl
      exact ⟨k+1,_,by omega,by go_num,rfl,by show _=_;rw [HT.out,<- HS2.out,hms.out,EX.out,e2,bN,bN,st,if_neg HK.out,if_pos HM.out],hblk1.out.aa HB2.out,bp HB2.out hbel1.out.size hbel1.out⟩
     case measure=>simp [intOf];omega
    ·have hm2:((k:Int)%(C:Int) == 0)=false:=by
      rw [beq_eq_false_iff_ne];intro h
      exact hm (by exact_mod_cast h)
     have ho0:=cK (a:=s.size) (b:=1) (by omega)
     have e32:ByteArray.size ⟨#[32]⟩=1:=rfl;obtain ⟨s2,hs2⟩:∃ t,s++(⟨#[32]⟩:ByteArray)=t:=⟨_,rfl⟩;have hs2s:s2.size=s.size+1:=by rw [<- hs2];exact ByteArray.size_append
     go_wp2_with fail
     refine (dM x hx w1).mono ?_;rintro e w2 ⟨rfl,hb2⟩;obtain ⟨t,ht⟩:∃ t,t=bs (fx x):=⟨_,rfl⟩;have hts:t.size<=301:=by rw [ht,aK];exact hfl
     rw [<- ht];have HT:=Lib.hid ht;have HS2:=Lib.hid hs2;have HB2:=Lib.hid hb2;have ho:=cK (a:=s2.size) (b:=t.size) (by omega)
     have HK:=Lib.hid hk0;have HM:=Lib.hid hm;clear ht hb2 hts hss hfl hs2 hs2s ho0 e32 hm2;go_wp2
     go_roundw
     case rel =>
      have e2:(⟨#[32]⟩:ByteArray)=bs [32]:=rfl
      exact ⟨k+1,_,by omega,by go_num,rfl,by show _=_;rw [HT.out,<- HS2.out,hms.out,EX.out,e2,bN,bN,st,if_neg HK.out,if_neg HM.out],hblk1.out.aa HB2.out,bp HB2.out hbel1.out.size hbel1.out⟩
     case measure=>simp [intOf];omega
  ·obtain rfl:k=n:=by omega
   have HF:Hid (s=bs (mt ⟨(R:Int),(C:Int),v⟩)):=by show _=_;rw [hmt.out];exact hms.out
   have HBL:=Lib.hid hbel.out;clear hms hmt hbel;go_wp2
   go_ret
   exact ⟨bT HF.out,HBL.out⟩
def ZS (n:Nat):Obj:= .cells (madeCells #[.string ByteArray.empty] n) 9
theorem ui (n:Nat) (hn:n<=1048576) (w:World):(Instr.makeSlice 48 (.int .i64 (n:Int)) (.int .i64 (n:Int))).run Tryz.prog w= .ok (.slice (some ⟨w.heap.size,0,none⟩) n n) (w.alloc (ZS n)):=by
 obtain ⟨i,hi,hz,h1,h8⟩:=info_parts mQ;have h:=run_make (P:=Tryz.prog) w 48 9 i _ Tryz.underlying48 hi hz .i64 .i64 (n:Int) (n:Int) (by omega) (Int.le_refl _) (by rw [h8];omega) (by omega)
 rw [h,h1];simp only [Int.toNat_natCast,Nat.mul_one]
 rfl
theorem VO.Cl (w:World) (n:Nat) (hn:n<=1048576):VO (w.alloc (ZS n)) w.heap.size 9 1 (some ⟨w.heap.size,0,none⟩) n n (List.replicate n (.string ByteArray.empty)):=by
 have h:=World.ownsRow_lit (base:=w.heap.size) (e:=9) (size:=1) w (madeCells #[.string ByteArray.empty] n) n (Nat.le_refl _) (by unfold maxLen;omega) (by simp [size_madeCells])
 have e:(madeCells #[.string ByteArray.empty] n).toList=List.replicate n (Value.string ByteArray.empty):=by rw [toList_madeCells_one]
 rw [e] at h
 exact h
def sf (f:Nat->List UInt8) (n k:Nat):List Value:=(List.range k).map (fun i=>Value.string (bs (f i)))++List.replicate (n-k) (.string ByteArray.empty)
theorem ur (f:Nat->List UInt8) (n:Nat):sf f n 0=List.replicate n (.string ByteArray.empty):=by simp [sf]
theorem xd (f:Nat->List UInt8) (n k:Nat) (h:k<n):(sf f n k).set k (.string (bs (f k)))=sf f n (k+1):=by
 unfold sf;have e:n-k=(n-(k+1))+1:=by omega
 rw [List.set_append_right _ _ (by simp),List.range_succ,List.map_append,List.append_assoc]
 simp only [List.length_map,List.length_range,Nat.sub_self];rw [e,List.replicate_succ]
 rfl
theorem zu (f:Nat->List UInt8) (n k:Nat) (h:k<n):(sf f n k)[k]?=some (.string ByteArray.empty):=by
 unfold sf;rw [List.getElem?_append_right (by simp),List.getElem?_replicate]
 simp
 omega
theorem uq (f:Nat->List UInt8) (n:Nat):sf f n n=strs ((List.range n).map f):=by
 unfold sf strs;rw [Nat.sub_self,List.replicate_zero,List.append_nil,List.map_map]
 rfl
theorem rM (l:List (List UInt8)) (sep:List UInt8) (m:Nat) (h:∀ x∈l,x.length<=m):(Lib.join l sep).length<=l.length*(m+sep.length):=by
 have key:∀ l:List (List UInt8),(∀ x∈l,x.length<=m)->(Lib.joinTail sep l).length<=l.length*(m+sep.length):=by
  intro l
  induction l with
  | nil=>intro _;simp [Lib.joinTail]
  | cons a l ih =>
   intro h;have h1:=ih (fun x hx=>h x (List.mem_cons_of_mem _ hx))
   have h2:=h a (List.mem_cons_self ..);simp only [Lib.joinTail,List.map_cons,List.flatten_cons,List.length_append,List.length_cons] at h1 ⊢;rw [Nat.succ_mul]
   omega
 cases l with
 | nil=>simp [Lib.join,List.intercalate]
 | cons a l =>
  have h1:=key l (fun x hx=>h x (List.mem_cons_of_mem _ hx))
  have h2:=h a (List.mem_cons_self ..);rw [Lib.join_cons,List.length_append,List.length_cons,Nat.succ_mul]
  omega
theorem rt_eq (v:List Int) (C k:Nat) (h:k*C+C<=v.length):rt v C k=Lib.join ((List.range C).map fun i=>fx (v.getD (k*C+i) 0)) [32]:=by
 unfold rt
 congr 1
 apply List.ext_getElem
 ·simp;omega
 ·intro i h1 h2;have hi:i<C:=by simpa using h2
  have e1:(v.getD (k*C+i) 0)=v[k*C+i]'(by omega):=by rw [List.getD_eq_getElem?_getD,List.getElem?_eq_getElem (by omega)];rfl
  simp only [List.getElem_map,List.getElem_take,List.getElem_drop,List.getElem_range,e1]
theorem wT (v:List Int) (C k:Nat) (hC:C<=5):(rt v C k).length<=5*302:=by
 unfold rt;refine Nat.le_trans (rM _ [32] 301 (fun x hx=> ?_)) ?_
 ·obtain ⟨y,_,rfl⟩:=List.mem_map.1 hx
  exact sU y
 ·simp only [List.length_map,List.length_cons,List.length_nil]
  exact Nat.mul_le_mul_right _ (by rw [List.length_take];omega)
theorem vX (r c k a:Nat) (b off n cap:Nat) (ha:a=k*c) (hc:1<=c) (hk:a+c<=n) (hcap:n<=cap) (bc:cap<=maxLen) (bn:n<=1048576) (w:World) :
  Calls Tryz.prog 58 #[MV (r:Int) (c:Int) (some ⟨b,off,none⟩) n cap,.int .i64 (k:Int)] w fun e w'=>(∃ d,e= .returned (.slice (some ⟨b,off+a,none⟩) c d))/\Below w.heap.size w w':=by
 have e1:(k:Int)*(c:Int)=(a:Int):=by rw [ha];push_cast;rfl
 have e2:((k:Int)+1)*(c:Int)=(a:Int)+(c:Int):=by rw [Int.add_mul,e1,Int.one_mul]
 have q1:=IntWalk.i64_in (a:Int) (by omega)
 have q2:=IntWalk.i64_in ((a:Int)+(c:Int)) (by omega)
 have q3:=IntWalk.i64_in ((k:Int)+1) (by
  have:k<=k*c:=Nat.le_mul_of_pos_right k hc
  omega)
 have l1:(a:Int)<=(a:Int)+(c:Int):=by omega
 have l2:(a:Int)+(c:Int)<=(cap:Int):=by omega
 have l3:(0:Int)<=(a:Int)+(c:Int):=by omega
 clear ha
 go_enter Tryz.func58,Tryz.ntmps58
 go_wp2
 go_ret
 exact ⟨⟨_,lI (by omega)⟩,(Below.refl _ _).alloc (Nat.le_refl _) _⟩
def Mo (v:List Int) (R C:Nat) (cs:Array Value) (w wr:World) (gR k:Nat):Prop :=
 VO wr w.heap.size 9 1 (some ⟨gR,0,none⟩) R R (sf (rt v C) R k)/\Blk wr w.heap.size 37 cs/\Below w.heap.size w wr
def Mj (v:List Int) (R C:Nat) (cs:Array Value) (w wr:World) (gR k gW j:Nat):Prop :=
 Mo v R C cs w wr gR k/\VO wr w.heap.size 9 1 (some ⟨gW,0,none⟩) C C (sf (fun i=>fx (v.getD (k*C+i) 0)) C j)/\gR<gW/\w.heap.size<gR
theorem Mo.below {v:List Int} {R C:Nat} {cs:Array Value} {w wr w1:World} {gR k:Nat} (h:Mo v R C cs w wr gR k) (hb:Below wr.heap.size wr w1):Mo v R C cs w w1 gR k :=
 ⟨h.1.below hb,h.2.1.aa hb,bp hb h.2.2.size h.2.2⟩
theorem Mj.start {v:List Int} {R C:Nat} {cs:Array Value} {w wr:World} {gR k:Nat} (h:Mo v R C cs w wr gR k) (hC:C<=5) (h0:w.heap.size<gR):Mj v R C cs w (wr.alloc (ZS C)) gR k wr.heap.size 0 :=
 ⟨h.below ((Below.refl _ _).alloc (Nat.le_refl _) _),by rw [ur];exact (VO.Cl wr C (by omega)).mono h.2.2.size,(h.1.aj gR rfl).2,h0⟩
theorem Mj.step {v:List Int} {R C:Nat} {cs:Array Value} {w wr w1:World} {gR k gW j:Nat} (h:Mj v R C cs w wr gR k gW j) (hb:Below wr.heap.size wr w1) (hj:j<C) {s:ByteArray} (hs:s=bs (fx (v.getD (k*C+j) 0))) :
  Mj v R C cs w (w1.setCell ⟨gW,j,none⟩ (.string s)) gR k gW (j+1):=by
 obtain ⟨⟨h1,h2,h3⟩,h4,h5,h6⟩:=h;subst hs;refine ⟨⟨(h1.below hb).far (p:=⟨gW,j,none⟩) (fun e=>by injection e with e;dsimp only at e;omega) _,(h2.aa hb).far (p:=⟨gW,j,none⟩) (by dsimp only;omega) _,(bp hb h3.size h3).setCell (by dsimp only;omega) _⟩,?_,h5,h6⟩
 have h7:=(h4.below hb).store j (.string (bs (fx (v.getD (k*C+j) 0))));rw [xd (fun i=>fx (v.getD (k*C+i) 0)) C j hj] at h7
 exact h7
theorem Mo.step {v:List Int} {R C:Nat} {cs:Array Value} {w wr w1:World} {gR k gW:Nat} (h:Mj v R C cs w wr gR k gW C) (hb:Below wr.heap.size wr w1) (hk:k<R) {s:ByteArray} (hs:s=bs (rt v C k)) :
  Mo v R C cs w (w1.setCell ⟨gR,k,none⟩ (.string s)) gR (k+1):=by
 obtain ⟨⟨h1,h2,h3⟩,h4,h5,h6⟩:=h;subst hs;refine ⟨?_,(h2.aa hb).far (p:=⟨gR,k,none⟩) (by dsimp only;omega) _,(bp hb h3.size h3).setCell (by dsimp only;omega) _⟩
 have h7:=(h1.below hb).store k (.string (bs (rt v C k)));rw [xd (rt v C) R k hk] at h7
 exact h7
theorem qe (r c:Int) (v:List Int) (A:Option Addr) (n cap:Nat) (w:World) (ht:Tab w) (hx0:SI w A n v) (bn:n<=1048576) (hcap:n<=cap) (bc:cap<=maxLen) :
  Calls Tryz.prog 15 #[MV r c A n cap] w fun e w'=>e= .returned (.string (bs (mt ⟨r,c,v⟩)))/\Below w.heap.size w w':=by
 obtain ⟨u1,hu1⟩:∃ u,u=w.alloc (.cells #[.int .i64 r,.int .i64 c,.slice A n cap] 37):=⟨_,rfl⟩;have B1:Blk u1 w.heap.size 37 #[.int .i64 r,.int .i64 c,.slice A n cap]:=by rw [hu1];exact Blk.new w _ _
 have HO1:Hid (Below w.heap.size w u1):=by rw [hu1];exact (Below.refl _ _).alloc (Nat.le_refl _) _
 have HX0:=Lib.hid hx0;have HX:Hid (SI u1 A n v):=SI.below hx0 HO1.out;have HB:=Lib.hid B1;have HTB:=Lib.hid ht;have hlen:=hx0.1;have c0:u1.cell? ⟨w.heap.size,0,none⟩=some (.int .i64 r):=B1.cell 0;have c1:u1.cell? ⟨w.heap.size,1,none⟩=some (.int .i64 c):=B1.cell 1;have c2:u1.cell? ⟨w.heap.size,2,none⟩=some (.slice A n cap):=B1.cell 2;have hsz:u1.heap.size=w.heap.size+1:=by rw [hu1];simp
 have HSZ:=Lib.hid hsz;clear B1 ht hsz
 cases hv:mvB ⟨r,c,v⟩
 ·have hbad:Hid (mt ⟨r,c,v⟩=[]):=s_ hv;have HV:=Lib.hid hv;clear hx0 hlen hv
  go_enter Tryz.func15,Tryz.ntmps15
  go_wp2_with fail
  rw [<- hu1];clear hu1;refine (aw r c v A n cap u1 HX.out (by omega)).mono ?_
  rintro e w1 ⟨rfl,hb1⟩;rw [HV.out];have HB1:=Lib.hid hb1;clear hb1;go_wp2
  go_ret
  exact ⟨bT (by rw [hbad.out];rfl),bp HB1.out HO1.out.size HO1.out⟩
 obtain ⟨R,C,hr,hc,R1,R5,C1,C5,hl,h25,hall⟩:=er hv
 dsimp only at hr hc hl hall
 subst hr hc;have hmt:Hid (mt ⟨(R:Int),(C:Int),v⟩=mtx v R C):=l_ hv rfl rfl;have HV:=Lib.hid hv;have HALL:=Lib.hid hall;have HL:=Lib.hid hlen;have HL2:=Lib.hid hl;have h0:0<n:=by have:=Nat.mul_pos (show 0<R by omega) (show 0<C by omega);omega
 obtain ⟨b,off,rfl,hb,hcl⟩:=hx0.2 h0;have HCL:=Lib.hid hcl;have hmR:=ui R (by omega)
 have hmC:=ui C (by omega)
 clear hx0 hlen hv hl hall hcl
 go_enter Tryz.func15,Tryz.ntmps15
 go_wp2_with fail
 rw [<- hu1];clear hu1;refine (aw (R:Int) (C:Int) v (some ⟨b,off,none⟩) n cap u1 HX.out (by omega)).mono ?_
 rintro e w1 ⟨rfl,hb1⟩;rw [HV.out];have d0:w1.cell? ⟨w.heap.size,0,none⟩=some (.int .i64 (R:Int)):=(HB.out.aa hb1).cell 0;obtain ⟨gR,hgR⟩:∃ g,g=w1.heap.size:=⟨_,rfl⟩;have hgR2:w.heap.size<gR:=by rw [hgR];have:=hb1.size;have:=HSZ.out;omega
 obtain ⟨u2,hu2⟩:∃ u,u=w1.alloc (ZS R):=⟨_,rfl⟩;have HMO:Hid (Mo v R C #[.int .i64 (R:Int),.int .i64 (C:Int),.slice (some ⟨b,off,none⟩) n cap] w u2 gR 0):=by
  have hO:=bp hb1 HO1.out.size HO1.out;refine ⟨?_,?_,?_⟩
  ·rw [hu2,ur,hgR];exact (VO.Cl w1 R (by omega)).mono hO.size
  ·rw [hu2];exact (HB.out.aa hb1).alloc _
  ·rw [hu2];exact hO.alloc hO.size _
 clear hb1 c0 c1 c2
 go_wp2_with fail
 rw [<- hu2,<- hgR];clear hu2 hgR d0
 go_loopw [16] (fun q wr=>∃ k:Nat,k<=R/\q= .int .i64 k/\Hid (Mo v R C #[.int .i64 (R:Int),.int .i64 (C:Int),.slice (some ⟨b,off,none⟩) n cap] w wr gR k)) (fun q _=>R-(intOf q).toNat)
 case atStart=>exact ⟨0,Nat.zero_le _,rfl,HMO⟩
 case round =>
  obtain ⟨k,hk,rfl,hmo⟩:=hrel
  by_cases hlt:k<R
  ·have i0:(0:Int)<=(k:Int):=by omega
   have i1:(k:Int)<(R:Int):=by omega
   have d1:wr.cell? ⟨w.heap.size,1,none⟩=some (.int .i64 (C:Int)):=hmo.out.2.1.cell 1;obtain ⟨wo,rfl⟩:∃ u:World,u=wr:=⟨_,rfl⟩;obtain ⟨gW,hgW⟩:∃ g,g=wo.heap.size:=⟨_,rfl⟩;obtain ⟨u3,hu3⟩:∃ u,u=wo.alloc (ZS C):=⟨_,rfl⟩;have HMJ:Hid (Mj v R C #[.int .i64 (R:Int),.int .i64 (C:Int),.slice (some ⟨b,off,none⟩) n cap] w u3 gR k gW 0):=by rw [hu3,hgW];exact Mj.start hmo.out C5 hgR2
   have e0:u3.cell? ⟨w.heap.size,0,none⟩=some (.int .i64 (R:Int)):=HMJ.out.1.2.1.cell 0;have e1:u3.cell? ⟨w.heap.size,1,none⟩=some (.int .i64 (C:Int)):=HMJ.out.1.2.1.cell 1;have e2:u3.cell? ⟨w.heap.size,2,none⟩=some (.slice (some ⟨b,off,none⟩) n cap):=HMJ.out.1.2.1.cell 2;have hkc:k*C+C<=R*C:=by have:=Nat.mul_le_mul_right C (show k+1<=R by omega);rw [Nat.succ_mul] at this;exact this
   have HKC:Hid (k*C+C<=v.length):=by show _<=_;rw [HL2.out];exact hkc
   obtain ⟨a,ha⟩:∃ a,a=k*C:=⟨_,rfl⟩;have hac:a+C<=n:=by rw [ha];have:=HKC.out;rw [HL.out] at this;exact this
   have HA:=Lib.hid ha;have hu3r:wo.alloc (ZS C)=u3:=hu3.symm;have HGW:=Lib.hid hgW;clear hmo hkc ha hu3 hgW
   go_wp2_with fail
   rw [<- HGW.out];clear hu3r d1;refine (vX R C k a b off n cap HA.out C1 hac hcap bc bn u3).mono ?_;rintro e w4 ⟨⟨d,rfl⟩,hb4⟩;have HMJ4:Hid (Mj v R C #[.int .i64 (R:Int),.int .i64 (C:Int),.slice (some ⟨b,off,none⟩) n cap] w w4 gR k gW 0):=⟨HMJ.out.1.below hb4,HMJ.out.2.1.below hb4,HMJ.out.2.2⟩;clear hb4 HMJ e0 e1 e2
   go_wp2_with fail
   go_loopw [26] (fun q wr=>∃ j:Nat,j<=C/\q= .int .i64 j/\Hid (Mj v R C #[.int .i64 (R:Int),.int .i64 (C:Int),.slice (some ⟨b,off,none⟩) n cap] w wr gR k gW j)) (fun q _=>C-(intOf q).toNat)
   case atStart=>exact ⟨0,Nat.zero_le _,rfl,HMJ4⟩
   case round =>
    obtain ⟨j,hj,rfl,hmj⟩:=hrel
    by_cases hjl:j<C
    ·obtain ⟨x,ex⟩:∃ x,x=v.getD (k*C+j) 0:=⟨_,rfl⟩;have j0:(0:Int)<=(j:Int):=by omega
     have j1:(j:Int)<(C:Int):=by omega
     have cx:wr.cell? ⟨b,off+a+j,none⟩=some (.int .i64 x):=by
      rw [ex,hmj.out.1.2.2.cell (p:=⟨b,off+a+j,none⟩) hb,Nat.add_assoc,<- HA.out]
      exact HCL.out (a+j) (by omega)
     have hx:=sQ HALL.out (k:=k*C+j) (by have:=HKC.out;omega)
     rw [<- ex] at hx;have EX:=Lib.hid ex;clear ex
     go_wp2_with fail
     refine (iI x hx wr (HTB.out.below hmj.out.1.2.2 (Nat.le_refl _))).mono ?_;rintro e w5 ⟨rfl,hb5⟩;obtain ⟨s,hs⟩:∃ s,s=bs (fx x):=⟨_,rfl⟩;rw [<- hs];have HST:Hid (Mj v R C #[.int .i64 (R:Int),.int .i64 (C:Int),.slice (some ⟨b,off,none⟩) n cap] w (w5.setCell ⟨gW,j,none⟩ (.string s)) gR k gW (j+1)):=hmj.out.step hb5 hjl (by rw [hs,EX.out])
     have hv5:=hmj.out.2.1.below hb5;have fw:w5.frozen? ⟨gW,j,none⟩=false:=hv5.frozen j;obtain ⟨y,cw⟩:∃ y,w5.cell? ⟨gW,j,none⟩=some (.string y):=by
      rw [hv5.cell j (by omega)]
      exact ⟨_,zu _ _ _ (by omega)⟩
     clear hs hb5 hv5 hmj hx;go_wp2
     go_roundw
     case rel=>exact ⟨j+1,by omega,by go_num,HST⟩
     case measure=>simp [intOf];omega
    ·obtain rfl:j=C:=by omega
     have HVW:Hid (VO wr w.heap.size 9 1 (some ⟨gW,0,none⟩) j j (strs ((List.range j).map fun i=>fx (v.getD (k*j+i) 0)))):=by
      have h:=hmj.out.2.1;rw [uq] at h
      exact h
     have hre:Hid (Lib.join ((List.range j).map fun i=>fx (v.getD (k*j+i) 0)) [32]=rt v j k):=(rt_eq v j k HKC.out).symm
     go_wp2_with fail
     refine (sS w.heap.size (some ⟨gW,0,none⟩) j j _ [32] wr HVW.out (by omega) (by rw [hre.out];exact Nat.le_trans (wT v j k C5) (by omega))).mono ?_
     rintro e w5 ⟨rfl,hb5⟩;rw [hre.out];obtain ⟨s,hs⟩:∃ s,s=bs (rt v j k):=⟨_,rfl⟩;rw [<- hs];have HST:Hid (Mo v R j #[.int .i64 (R:Int),.int .i64 (j:Int),.slice (some ⟨b,off,none⟩) n cap] w (w5.setCell ⟨gR,k,none⟩ (.string s)) gR (k+1)):=Mo.step hmj.out hb5 hlt hs;have hv5:=hmj.out.1.1.below hb5;have fw:w5.frozen? ⟨gR,k,none⟩=false:=hv5.frozen k;obtain ⟨y,cw⟩:∃ y,w5.cell? ⟨gR,k,none⟩=some (.string y):=by
      rw [hv5.cell k (by omega)]
      exact ⟨_,zu _ _ _ (by omega)⟩
     clear hs hb5 hv5 hmj HVW hre;go_wp2
     go_roundw
     case rel=>exact ⟨k+1,by omega,by go_num,HST⟩
     case measure=>simp [intOf];omega
  ·obtain rfl:k=R:=by omega
   have HVR:Hid (VO wr w.heap.size 9 1 (some ⟨gR,0,none⟩) k k (strs ((List.range k).map (rt v C)))):=by
    have h:=hmo.out.1;rw [uq] at h
    exact h
   have HBE:=Lib.hid hmo.out.2.2;clear hmo
   go_wp2_with fail
   refine (sS w.heap.size (some ⟨gR,0,none⟩) k k _ [59,32] wr HVR.out (by omega) (Nat.le_trans (rM _ [59,32] (5*302) (fun x hx=>by
    obtain ⟨y,_,rfl⟩:=List.mem_map.1 hx
    exact wT v C y C5)) (by simp only [List.length_map,List.length_range,List.length_cons,List.length_nil];exact Nat.le_trans (Nat.mul_le_mul_right _ R5) (by omega)))).mono ?_
   rintro e w5 ⟨rfl,hb5⟩;have HB5:=Lib.hid hb5;clear hb5;go_wp2
   go_ret
   exact ⟨bT (by rw [hmt.out];rfl),bp HB5.out HBE.out.size HBE.out⟩
end Go.Proofs.YtjciicheoghcdaaGreatDoor
